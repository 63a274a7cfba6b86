import Derived.Test.YteamkjblpglliaaClClsd
import Derived.Test.YteamkjblpglliaaHl5
section
set_option linter.unusedSimpArgs false
set_option linter.unusedVariables false
namespace Go.Proofs.Yteamkjblpglliaa
open Go.RowKit Go.SL Go.HL
def stk (l:List Nat):HV:=.osl 1 l.length (HL.ints (nl l))
theorem OL (l:List Nat) (x:Nat) (hl:l.length<=100000):HTI Try.prog 50 [.optr [stk l],.int .i64 x] [0] (fun r outs=>r=.tup []/\outs=[.optr [stk (l ++ [x])]]):=by
 have hln:=fE l
 have hlx:=fE (l ++ [x])
 have hap:HL.ints (nl l) ++ [HV.int .i64 (x:Int)]=HL.ints (nl (l ++ [x])):=by simp [HL.ints,nl]
 unfold stk
 refine HTI.of rfl WE (Nat.le_of_ble_eq_true rfl) 2 [0] (by rfl) (by rfl) (⟨[(0,.pref 0 [] 0),(1,.int .i64 x)],[(0,.optr [.osl 1 l.length (HL.ints (nl l))])],1⟩:St) rfl ?_
 unfold c50
 refine ae ?_
 repeat (first|refine ah ?_|refine aF ?_|refine ag ?_|refine aA ?_|refine dh ?_|refine dS ?_|refine kD ?_|refine cZ gy rfl ?_)
 refine lC (rs:=[0]) aK jD tX ?_
 exact ⟨_,rfl,rfl,by simp,rfl,by rw [show (l ++ [x]).length=l.length+1 by simp];rfl⟩
theorem MP (x:Nat):HTI Try.prog 50 [.optr [.nils],.int .i64 x] [0] (fun r outs=>r=.tup []/\outs=[.optr [stk [x]]]):=by
 unfold stk
 refine HTI.of rfl WE (Nat.le_of_ble_eq_true rfl) 2 [0] (by rfl) (by rfl) (⟨[(0,.pref 0 [] 0),(1,.int .i64 x)],[(0,.optr [.nils])],1⟩:St) rfl ?_
 unfold c50
 refine ae ?_
 repeat (first|refine ah ?_|refine aF ?_|refine ag ?_|refine aA ?_|refine dh ?_|refine dS ?_|refine PD gY (by rfl) gy Et YZ (by omega) kQ ?_|refine cZ gy rfl ?_)
 refine lC (rs:=[0]) aK jD tX ?_
 exact ⟨_,rfl,rfl,by simp,rfl,rfl⟩
theorem TM (l:List Nat) (x:Nat) (hl:l.length<=100000):HTI Try.prog 51 [.optr [stk (l ++ [x])]] [0] (fun r outs=>r=.int .i64 x/\outs=[.optr [stk l]]):=by
 have hln:=fE l
 have hlx:=fE (l ++ [x])
 unfold stk
 refine HTI.of rfl adC (Nat.le_of_ble_eq_true rfl) 1 [0] (by rfl) (by rfl) (⟨[(0,.pref 0 [] 0)],[(0,.optr [.osl 1 (l ++ [x]).length (HL.ints (nl (l ++ [x])))])],1⟩:St) rfl ?_
 unfold c51
 have hl1:(l ++ [x]).length=l.length+1:=by simp
 have hx:(l ++ [x]).getD l.length 0=x:=by simp
 rw [hl1]
 repeat (first|refine ah ?_|refine ag ?_|refine ak ?_|refine ae ?_)
 refine bU aU aU (fun _ _ _=>False) ?_
 repeat (first|refine ah ?_|refine dH ?_|refine aF ?_|refine ag ?_|refine jd (by rfl) ?_|refine ig (by rfl) (by rfl) qh ?_|refine aA ?_|refine cZ gy rfl ?_)
 have hto:((l.length+1:Nat):Int) - 1=l.length:=by omega
 have hto2:(((l.length+1:Nat):Int) - 1).toNat=l.length:=by omega
 rw [hto2,hx]
 refine ak ?_
 refine J4 12 aU aU aU (fun _ _ _=>False) ?_
 simp only [List.take_succ_cons,List.take_zero,List.drop_succ_cons,List.drop_zero]
 repeat (first|refine ah ?_|refine aF ?_|refine ag ?_|refine jd (by rfl) ?_|refine ig (by rfl) (by rfl) qh ?_|refine aA ?_|refine Me (by rfl) (by rfl) (by rfl) (by omega) di gY ?_|refine cZ gy rfl ?_)
 have htk:(HL.ints (nl (l ++ [x]))).take (l.length * 1)=HL.ints (nl l):=by simp [HL.ints,nl]
 rw [hto2]
 refine EW 27 [0,3,16,27] (⟨[(0,.pref 0 [] 0),(3,.int .i64 x),(16,.pref 0 [] 0),(27,.ref 1 [] 1 0 l.length)],[(0,.optr [.dead]),(1,.osl 1 l.length (HL.ints (nl l)))],2⟩:St) rfl rfl rfl (by omega) (HL.ints_flat _) (by decide) (by rw [htk];rfl) ?_
 repeat (first|refine ah ?_|refine ag ?_|refine ak ?_|refine ae ?_|refine aA ?_|refine dh ?_|refine cZ gy rfl ?_)
 refine jP (rs:=[2,0]) aK jD tX ?_
 exact ⟨_,rfl,rfl,by simp,rfl,rfl⟩
end Go.Proofs.Yteamkjblpglliaa
end
section
set_option linter.unusedSimpArgs false
set_option linter.unusedVariables false
namespace Go.HL
set_option linter.unnecessarySimpa false
open Go.RowKit
def inT (l:List Nat):HX->Bool
 | .t i=>l.contains i
 | .c _=>false
def sH (l:List Nat):HX->Bool
 | .t i=>l.contains i
 | .c v=>v.deep.isEmpty
abbrev RS:=List Nat×List Nat×List Nat
def quiet (a:RS) (o:aP):Bool:=match o.op with
 | .mv 0 x=>sH a.1 x
 | .mv (_+1) x=>inT a.2.1 x && inT a.1 x
 | .iaddr _ x y=>sH a.1 x && sH a.1 y
 | .load false _ x=>sH a.1 x
 | .len x=>sH a.1 x
 | .bin _ x y=>sH a.1 x && sH a.1 y
 | .bld zs ps=>(bY zs).isEmpty && ps.all fun q=>sH a.1 q.2.2
 | _=>false
def jS (a:RS) (o:aP):Bool:=match o.op with
 | .mv _ x=>inT a.2.1 x
 | _=>false
def without (l:List Nat):Option Nat->List Nat
 | some t=>l.filter (· != t)
 | none=>l
def qw (a:RS) (o:aP):Bool:=match o.op with
 | .mv 0 x=>inT a.2.2 x
 | .mv (_+1) x=>inT a.2.2 x && inT a.2.1 x
 | .iaddr _ x _=>inT a.2.2 x
 | _=>false
def rH (a:RS) (o:aP):Bool:=match o.op with
 | .load _ _ x=>inT a.2.2 x
 | _=>false
def tC (a:RS) (o:aP):Bool:=match o.op with
 | .bsl _ _ xs=>xs.all (sH a.1)
 | _=>false
def Pz (o:aP):Bool:=match o.op with
 | .call ..=>true
 | .callv ..=>true
 | _=>false
def more (c:Bool) (t:Nat) (l:List Nat):List Nat:=if c then t :: l else l
def ui (a:RS) (o:aP):RS:=match o.guard,o.dst with
 | none,some t=>(more (quiet a o || Pz o) t (without a.1 o.dst),more (jS a o) t (without a.2.1 o.dst),more (qw a o) t (without a.2.2 o.dst))
 | _,_=>(without a.1 o.dst,without a.2.1 o.dst,without a.2.2 o.dst)
def lH (ops:List aP) (a0:RS) (i:Nat):RS:=(ops.take i).foldl ui a0
def Be (masks:List Nat) (all:List aP) (a0:RS):Bool :=
 (List.range all.length).all fun i=>(List.range i).all fun k=>pK masks k i || (match all[k]?,all[i]? with|some x,some y=>!uC x y || quiet (lH all a0 k) x || quiet (lH all a0 i) y || tC (lH all a0 i) y || (tC (lH all a0 k) x && rH (lH all a0 i) y)|_,_=>true)
def F0:Nat->Prop:=fun _=>False
structure RI (nx:Nat) (a:RS) (S:Lk):Prop where
 ro:∀t∈a.1,(S t).inn F0
 nn:∀t∈a.2.1,S t≠.nils
 old:∀t∈a.2.2,(S t).inn (· < nx)
theorem aau {v:HV} (h:v.inn F0):v.deep=[]:=List.eq_nil_iff_forall_not_mem.2 fun x hx=>h x hx
theorem l7 {nx:Nat} {a:RS} {S:Lk} (h:RI nx a S) {x:HX} (hx:sH a.1 x=true):(dW S x).inn F0:=by
 cases x with
 | t i=>exact h.ro i (by simpa [sH] using hx)
 | c v =>
  have hd:v.deep=[]:=by simpa [sH,List.isEmpty_iff] using hx
  intro y hy
  simp only [dW,hd] at hy
  cases hy
theorem DX {l:List Nat} {x:HX} (h:inT l x=true):sH l x=true:=by cases x <;> simp_all [inT,sH]
theorem BC {nx:Nat} {a:RS} {S:Lk} (h:RI nx a S) {x:HX} (hx:inT a.2.1 x=true):dW S x≠.nils:=by
 cases x with
 | t i=>exact h.nn i (by simpa [inT] using hx)
 | c v=>cases hx
theorem zX {nx:Nat} {a:RS} {S:Lk} {o:aP} (h:RI nx a S) (hq:quiet a o=true):bY (o.op.map (dW S)).vals=[]:=by
 obtain ⟨d,op,g⟩:=o
 have one:∀ {x:HX},sH a.1 x=true->(dW S x).deep=[]:=fun hx=>aau (l7 h hx)
 cases op <;> simp only [quiet] at hq <;> (try cases hq)
 case mv n x=>cases n with
  | zero=>simp [HOp.map,HOp.vals,bY,one hq]
  | succ n=>simp only [Bool.and_eq_true] at hq;simp [HOp.map,HOp.vals,bY,one (DX hq.2)]
 case bin=>simp only [Bool.and_eq_true] at hq;simp [HOp.map,HOp.vals,bY,one hq.1,one hq.2]
 case load b sz x=>cases b with
  | false=>simp only at hq;simp [HOp.map,HOp.vals,bY,one hq]
  | true=>cases hq
 case iaddr=>simp only [Bool.and_eq_true] at hq;simp [HOp.map,HOp.vals,bY,one hq.1,one hq.2]
 case len=>simp [HOp.map,HOp.vals,bY,one hq]
 case bld zs ps =>
  simp only [Bool.and_eq_true,List.all_eq_true] at hq
  refine List.eq_nil_iff_forall_not_mem.2 fun x hx=>?_
  obtain ⟨v,hv,hxv⟩:=mem_deepL.1 hx
  simp only [HOp.map,HOp.vals,List.map_map,List.mem_map,Function.comp] at hv
  obtain ⟨q,hq1,rfl⟩:=hv
  rw [one (hq.2 q hq1)] at hxv
  cases hxv
theorem Iz {nx:Nat} {a:RS} {S:Lk} (h:RI nx a S) {zs:List HV} {ps:List (Nat×Nat×HX)} (hq:((bY zs).isEmpty && ps.all fun q=>sH a.1 q.2.2)=true):(HV.agg (lW zs (ps.map fun p=>(p.1,p.2.1,dW S p.2.2))).1).inn F0:=by
 simp only [Bool.and_eq_true,List.all_eq_true,List.isEmpty_iff] at hq
 have h1:innL F0 zs:=innL_iff.2 (by rw [hq.1];simp)
 have h2:=Dz (ps:=ps.map fun p=>(p.1,p.2.1,dW S p.2.2)) h1 (fun q hq'=>by
  obtain ⟨p,hp,rfl⟩:=List.mem_map.1 hq'
  exact l7 h (hq.2 p hp))
 intro x hx
 exact innL_iff.1 h2 x hx
theorem zG {nx:Nat} {a:RS} {S:Lk} {o:aP} (h:RI nx a S) (hq:quiet a o=true) (L:Lk) (fr:Nat):(aS L fr (o.op.map (dW S))).2.1=[]/\(aS L fr (o.op.map (dW S))).1.inn F0/\(jS a o=true->(aS L fr (o.op.map (dW S))).1≠.nils):=by
 obtain ⟨d,op,g⟩:=o
 cases op <;> simp only [quiet] at hq <;> (try cases hq)
 case mv n x=>cases n with
  | zero=>exact ⟨by cases hv:dW S x <;> simp [HOp.map,aS,hv],by have:=l7 h hq;cases hv:dW S x <;> simpa [HOp.map,aS,hv] using this,fun hk=>by have:=BC h hk;cases hv:dW S x <;> simp_all [HOp.map,aS]⟩
  | succ n =>
   simp only [Bool.and_eq_true] at hq
   have h1:=BC h hq.1
   have h2:=l7 h (DX hq.2)
   refine ⟨by cases hv:dW S x <;> simp_all [HOp.map,aS],by cases hv:dW S x <;> simp_all [HOp.map,aS],fun _=>by cases hv:dW S x <;> simp_all [HOp.map,aS]⟩
 case bin op x y=>exact ⟨rfl,HY,fun hk=>by simp [jS] at hk⟩
 case load b sz x=>cases b with
  | true=>cases hq
  | false =>
   simp only at hq
   have h1:=l7 h hq
   refine ⟨?_,?_,fun hk=>by simp [jS] at hk⟩
   ·cases hv:dW S x <;> simp [HOp.map,aS,hv]
   ·cases hv:dW S x <;> (simp only [HOp.map,aS,hv];rw [hv] at h1)
    all_goals first|exact dX|skip
    ·simp only [Ar] at h1;exact h1.getD _
    ·exact (show False from h1 _ (List.mem_singleton.2 rfl)).elim
 case iaddr sz x y =>
  simp only [Bool.and_eq_true] at hq
  have h1:=l7 h hq.1
  refine ⟨?_,?_,fun hk=>by simp [jS] at hk⟩
  ·cases hv:dW S y <;> cases hw:dW S x <;> simp [HOp.map,aS,hv,hw]
  ·cases hv:dW S y <;> cases hw:dW S x <;> (simp only [HOp.map,aS,hv,hw];rw [hw] at h1)
   all_goals first|exact dX|skip
   ·simpa using h1
   ·exact (show False from h1 _ (List.mem_singleton.2 rfl)).elim
 case bld zs ps=>exact ⟨rfl,Iz h hq,fun hk=>by simp [jS] at hk⟩
 case len x =>
  refine ⟨by cases hv:dW S x <;> simp [HOp.map,aS,hv],?_,fun hk=>by simp [jS] at hk⟩
  cases hv:dW S x <;> simp only [HOp.map,aS,hv] <;> first|exact lD|exact dX
theorem yK {nx:Nat} {a:RS} {S:Lk} {o:aP} (h:(∃f xs,o.op.map (dW S)=.call f xs)\/∃x xs,o.op.map (dW S)=.callv x xs):(∀t ids,(quiet a o=true->t=([]:List Nat)/\ids=([]:List Nat))/\(rH a o=true->t=[]/\∀x∈ids,x < nx)/\(tC a o=true->(∀i,∀x∈t,uZ nx i x)/\ids=[]))/\(quiet a o=false/\jS a o=false/\qw a o=false):=by
 obtain ⟨d,op,g⟩:=o
 cases op <;> simp_all [HOp.map,quiet,rH,tC,jS,qw]
theorem Lp {us:List Upd}:∀ {S:Lk} {t:Nat},(S t).inn F0->(sN S us t).inn F0:=by
 induction us with
 | nil=>intro S t h;exact h
 | cons u r ih=>intro S t h;cases u with
  | put=>exact ih h
  | kill id len=>exact ih (S:=fun t=>(S t).kill id len) (uQ id len _ h)
theorem OV {v:HV} (h:v≠.nils) (id len:Nat):v.kill id len≠.nils:=by
 cases v <;> simp_all [HV.kill] <;> split <;> simp
theorem Qm {us:List Upd}:∀ {S:Lk} {t:Nat},S t≠.nils->sN S us t≠.nils:=by
 induction us with
 | nil=>intro S t h;exact h
 | cons u r ih=>intro S t h;cases u with
  | put=>exact ih h
  | kill id len=>exact ih (S:=fun t=>(S t).kill id len) (OV h id len)
theorem rq {l:List Nat} {d:Option Nat} {t:Nat} (h:t∈without l d):t∈l/\d≠some t:=by
 cases d with
 | none=>exact ⟨h,by simp⟩
 | some k =>
  simp only [without,List.mem_filter,bne_iff_ne,ne_eq] at h
  exact ⟨h.1,fun e=>h.2 (by cases e;rfl)⟩
theorem MI {p:Nat->Prop} {us:List Upd}:∀ {S:Lk} {t:Nat},(S t).inn p->(sN S us t).inn p:=by
 induction us with
 | nil=>intro S t h;exact h
 | cons u r ih=>intro S t h;cases u with
  | put=>exact ih h
  | kill id len=>exact ih (S:=fun t=>(S t).kill id len) (uQ id len _ h)
theorem GI {nx:Nat} {a:RS} {S:Lk} {o:aP} (h:RI nx a S) (hq:jS a o=true) (L:Lk) (fr:Nat):(aS L fr (o.op.map (dW S))).1≠.nils:=by
 obtain ⟨d,op,g⟩:=o
 cases op <;> simp only [jS] at hq <;> (try cases hq)
 rename_i n x
 have h1:=BC h hq
 cases n <;> cases hv:dW S x <;> simp_all [HOp.map,aS]
theorem wZ {nx:Nat} {a:RS} {S:Lk} (h:RI nx a S) {x:HX} (hx:inT a.2.2 x=true):(dW S x).inn (· < nx):=by
 cases x with
 | t i=>exact h.old i (by simpa [inT] using hx)
 | c v=>cases hx
theorem EX {nx:Nat} {a:RS} {S:Lk} {o:aP} (h:RI nx a S) (hq:qw a o=true) (L:Lk) (fr:Nat):(aS L fr (o.op.map (dW S))).1.inn (· < nx):=by
 obtain ⟨d,op,g⟩:=o
 cases op <;> simp only [qw] at hq <;> (try cases hq)
 case mv n x=>cases n with
  | zero =>
   have h1:=wZ h hq
   cases hv:dW S x <;> (rw [hv] at h1;simpa [HOp.map,aS,hv] using h1)
  | succ n =>
   simp only [Bool.and_eq_true] at hq
   have h1:=wZ h hq.1
   have h2:=BC h hq.2
   cases hv:dW S x <;> first|exact absurd hv h2|(rw [hv] at h1;simpa [HOp.map,aS,hv] using h1)
 case iaddr sz x y =>
  have h1:=wZ h hq
  cases hv:dW S y <;> cases hw:dW S x <;> (simp only [HOp.map,aS,hv,hw];rw [hw] at h1)
  all_goals first|exact dX|skip
  ·simpa using h1
  ·intro z hz
   exact h1 z hz
theorem qN {nx:Nat} {a:RS} {S:Lk} {o:aP} (h:RI nx a S) (hq:rH a o=true) (L:Lk) (fr:Nat):(aS L fr (o.op.map (dW S))).2.1=[]/\∀x∈iZ o S,x < nx:=by
 obtain ⟨d,op,g⟩:=o
 cases op <;> simp only [rH] at hq <;> (try cases hq)
 rename_i b sz x
 have h1:=wZ h hq
 refine ⟨?_,fun z hz=>h1 z ?_⟩
 ·cases hv:dW S x <;> cases b <;> simp [HOp.map,aS,hv]
 ·simpa [iZ,HOp.map,HOp.vals,bY] using hz
theorem Jk {L:Lk} {v:HV} (h:v.deep=[]):(takeC L v).2.1=[]:=by
 cases v <;> simp_all [takeC,HV.deep]
theorem Je:∀ {l:List HV} {L:Lk},bY l=[]->(fP L l).2.1=[]:=by
 intro l
 induction l with
 | nil=>intro L _;rfl
 | cons v r ih =>
  intro L h
  simp only [bY,List.append_eq_nil_iff] at h
  simp only [fP,Jk h.1,Lk.upd,List.nil_append]
  exact ih h.2
theorem tY {nx:Nat} {a:RS} {S:Lk} {o:aP} (h:RI nx a S) (hq:tC a o=true) (L:Lk) (fr:Nat):iH (aS L fr (o.op.map (dW S))).2.1=[fr]/\iZ o S=[]:=by
 obtain ⟨d,op,g⟩:=o
 cases op <;> simp only [tC] at hq <;> (try cases hq)
 rename_i sz n xs
 have hd:bY (xs.map (dW S))=[]:=by
  rw [List.eq_nil_iff_forall_not_mem]
  intro z hz
  rw [mem_deepL] at hz
  obtain ⟨v,hv,hz⟩:=hz
  obtain ⟨x,hx,rfl⟩:=List.mem_map.1 hv
  have:=aau (l7 h (List.all_eq_true.1 hq x hx))
  rw [this] at hz;cases hz
 have hd2:bY ((xs.map (dW S)).flatMap cellsOf)=[]:=by
  rw [List.eq_nil_iff_forall_not_mem]
  intro z hz
  have:=vM hz
  rw [hd] at this;cases this
 refine ⟨?_,by simpa [iZ,HOp.map,HOp.vals] using hd⟩
 simp only [HOp.map,aS,Je hd2,List.nil_append]
 rfl
theorem RI.rest {nx:Nat} {a:RS} {S:Lk} (h:RI nx a S) {o:aP} (e:HV×List Upd):RI nx (without a.1 o.dst,without a.2.1 o.dst,without a.2.2 o.dst) (jY o e S):=by
 refine ⟨fun t ht=>?_,fun t ht=>?_,fun t ht=>?_⟩
 ·obtain ⟨h1,h2⟩:=rq ht
  simp only [jY,if_neg h2]
  exact Lp (h.ro t h1)
 ·obtain ⟨h1,h2⟩:=rq ht
  simp only [jY,if_neg h2]
  exact Qm (h.nn t h1)
 ·obtain ⟨h1,h2⟩:=rq ht
  simp only [jY,if_neg h2]
  exact MI (h.old t h1)
theorem xE {c:Bool} {t u:Nat} {l:List Nat} (h:u∈more c t l):(c=true/\u=t)\/u∈l:=by
 unfold more at h
 split at h
 ·rename_i hc
  rcases List.mem_cons.1 h with h|h
  ·exact .inl ⟨hc,h⟩
  ·exact .inr h
 ·exact .inr h
theorem RI.step {nx:Nat} {a:RS} {S:Lk} (h:RI nx a S) {o:aP} (e:HV×List Upd) (h1:o.guard=none->(quiet a o || Pz o)=true->e.1.inn F0) (h2:o.guard=none->jS a o=true->e.1≠.nils) (h3:o.guard=none->qw a o=true->e.1.inn (· < nx)):RI nx (ui a o) (jY o e S):=by
 have hr:=h.rest (o:=o) e
 unfold ui
 split
 ·rename_i t hg hd
  refine ⟨fun u hu=>?_,fun u hu=>?_,fun u hu=>?_⟩
  ·rcases xE hu with ⟨hc,rfl⟩|hu
   ·simp only [jY,hd,if_true];exact h1 hg hc
   ·exact hr.ro u hu
  ·rcases xE hu with ⟨hc,rfl⟩|hu
   ·simp only [jY,hd,if_true];exact h2 hg hc
   ·exact hr.nn u hu
  ·rcases xE hu with ⟨hc,rfl⟩|hu
   ·simp only [jY,hd,if_true];exact h3 hg hc
   ·exact hr.old u hu
 ·exact hr
theorem RI.loud {nx:Nat} {a:RS} {S:Lk} (h:RI nx a S) {o:aP} (hq:quiet a o=false/\jS a o=false/\qw a o=false) (e:HV×List Upd) (hn:e.1.inn F0):RI nx (ui a o) (jY o e S) :=
 h.step e (fun _ _=>hn) (fun _ h=>by rw [hq.2.1] at h;cases h) (fun _ h=>by rw [hq.2.2] at h;cases h)
theorem RI.skip {nx:Nat} {a:RS} {S:Lk} (h:RI nx a S) {o:aP} (hg:o.guard≠none) {e:HV×List Upd}:RI nx (ui a o) (jY o e S) :=
 h.step e (fun h=>absurd h hg) (fun h=>absurd h hg) (fun h=>absurd h hg)
theorem RI.exec {nx:Nat} {a:RS} {S M:Lk} {fr:Nat} (h:RI nx a S) {o:aP}:RI nx (ui a o) (jY o ((aS M fr (o.op.map (dW S))).1,(aS M fr (o.op.map (dW S))).2.1) S) :=
 h.step _ (fun _ hq=>by
  rcases Bool.or_eq_true_iff.1 hq with hq|hq
  ·exact (zG h hq M fr).2.1
  ·obtain ⟨d,op,g⟩:=o
   cases op <;> simp only [Pz] at hq <;> (first|exact dX|cases hq)) (fun _ hq=>GI h hq M fr) (fun _ hq=>EX h hq M fr)
def Told (nx:Nat) (a:RS) (o:aP) (i:Nat) (t ids:List Nat):Prop :=
 (quiet a o=true->t=[]/\ids=[])/\(rH a o=true->t=[]/\∀x∈ids,x < nx)/\(tC a o=true->(∀x∈t,uZ nx i x)/\ids=[])
def H9 (nx:Nat) (a:RS) (o:aP) (i:Nat) (W R:List Nat):Prop:=∃t ids,Told nx a o i t ids/\(∀c∈W,c / 2∈t)/\∀c∈R,c / 2∈ids
theorem Told.e {nx:Nat} {a:RS} {o o2:aP} {i:Nat} {us:List Upd} {S:Lk} (h:Told nx a o i (iH us) (iZ o2 S)):H9 nx a o i (ik o2 S us) (oK o2 S):=⟨_,_,h,fun _ hc=>Eb hc,fun _ hc=>qE hc⟩
theorem Kv {P:Program} {D:FuncId->List HV->HV->Prop} {ops:List aP} {masks:List Nat} {nx:Nat} {K:St->Prop} {a0:RS} (hlit:∀ (i:Nat) (o:aP),ops[i]?=some o->lh o=true) (hDn:∀f args r,D f args r->∀fr,(unpack fr r).1.inn F0) (hns:Be masks ops a0=true):∀ (rest:List aP) (i:Nat) (log:kX) (s:St),ops.drop i=rest->s.nx=nx->(∀q∈log,q.1 < i)->(∀q∈log,∀o,ops[q.1]?=some o->H9 nx (lH ops a0 q.1) o q.1 q.2.1 q.2.2)->RI nx (lH ops a0 i) s.S->Inv nx (fun k=>k < i) s.S s.M->(∀q∈log,∀x∈q.2.2,pM nx (fun k=>k < q.1) (x / 2))->hops (CS P D) ops rest i K s ->
  dr (HT P) D ops masks nx (fun S M=>∃s':St,s'.S=S/\s'.M=M/\s'.nx=nx/\K s') (List.range' i rest.length) log s.S s.M:=by
 intro rest
 induction rest with
 | nil=>intro i log s _ hnx _ _ _ _ _ h;exact ⟨s,rfl,rfl,hnx,h⟩
 | cons o rest ih =>
  intro i log s hdrop hnx hlog hlq hRI hI hlb h
  have hoi:ops[i]?=some o:=by
   have:=congrArg (fun l:List aP=>l[0]?) hdrop
   simpa using this
  have hdrop':ops.drop (i+1)=rest:=by
   have:=congrArg (List.drop 1) hdrop
   simpa [List.drop_drop,Nat.add_comm] using this
  simp only [List.length_cons,List.range'_succ]
  have hil:=(List.getElem?_eq_some_iff.1 hoi).1
  have ck:∀e:HV×List Upd,Told nx (lH ops a0 i) o i (iH e.2) (iZ o s.S)->∀q∈log,chk masks ops i o e s.S q:=by
   intro e he q hq b1 _ o' ho' hs
   have hlt:=hlog q hq
   obtain ⟨t,ids,hl,hlt1,hlt2⟩:=hlq q hq o' ho'
   simp only [Be,List.all_eq_true,List.mem_range,Bool.or_eq_true] at hns
   have h:=hns i hil q.1 hlt
   rw [ho',hoi] at h
   simp only [Bool.or_eq_true,Bool.not_eq_true',Bool.and_eq_true] at h
   have w2:=fun c (hc:c∈ik o s.S e.2)=>Eb hc
   have r2:=fun c (hc:c∈oK o s.S)=>qE hc
   rcases h with h|(((h|h)|h)|h)|h
   ·rw [b1] at h;cases h
   ·rw [h] at hs;cases hs
   ·obtain ⟨p1,p2⟩:=hl.1 h
    rw [p1] at hlt1
    rw [p2] at hlt2
    exact ⟨fun x _ hx=>by have:=hlt2 x hx;simp at this,fun x hx=>by have:=hlt1 x hx;simp at this⟩
   ·obtain ⟨p1,p2⟩:=he.1 h
    rw [p1] at w2
    rw [p2] at r2
    exact ⟨fun x hx=>by have:=w2 x hx;simp at this,fun x _ hx=>by have:=r2 x hx;simp at this⟩
   ·obtain ⟨p3,p4⟩:=he.2.2 h
    rw [p4] at r2
    refine ⟨fun x hx hx'=>?_,fun x _ hx'=>by have:=r2 x hx';simp at this⟩
    have h3:=p3 _ (w2 x hx)
    have h4:=hlb q hq x hx'
    rcases h4 with h4|⟨k,h4,h5⟩
    ·unfold uZ at h3;omega
    ·have:k+1<=i:=by omega
     have:=Nat.mul_le_mul_left stride this
     unfold uZ at h3 h5
     omega
   ·obtain ⟨p1,p2⟩:=hl.2.2 h.1
    obtain ⟨p3,p4⟩:=he.2.1 h.2
    rw [p3] at w2
    refine ⟨fun x hx=>by have:=w2 x hx;simp at this,fun x hx hx'=>?_⟩
    have h5:=p1 _ (hlt1 x hx)
    have h6:=p4 _ (r2 x hx')
    unfold uZ at *
    omega
  have hacc:lH ops a0 (i+1)=ui (lH ops a0 i) o:=by
   unfold lH
   rw [List.take_succ_eq_append_getElem hil,List.foldl_append]
   have:ops[i]=o:=by rw [List.getElem?_eq_getElem hil] at hoi;exact Option.some.inj hoi
   rw [this];rfl
  have hent:∀us:List Upd,Told nx (lH ops a0 i) o i (iH us) (iZ o s.S)->∀q∈(i,ik o s.S us,oK o s.S) :: log,∀o',ops[q.1]?=some o'->H9 nx (lH ops a0 q.1) o' q.1 q.2.1 q.2.2:=by
   intro us hus q hq o' ho'
   rcases List.mem_cons.1 hq with rfl|hq
   ·rw [hoi] at ho'
    cases ho'
    exact hus.e
   ·exact hlq q hq o' ho'
  have tskip:Told nx (lH ops a0 i) o i (iH []) (iZ o s.S):=⟨fun h=>⟨rfl,zX hRI h⟩,fun h=>⟨rfl,(qN hRI h s.M 0).2⟩,fun h=>⟨by simp [iH],(tY hRI h s.M 0).2⟩⟩
  have stepS:∀ (us:List Upd) (v:HV),((s.upd us).put o.dst v).S=jY o (v,us) s.S:=fun us v=>by rw [St.put_S,St.upd_S];rfl
  have stepM:∀ (us:List Upd) (v:HV),((s.upd us).put o.dst v).M=rG (v,us) s.M:=fun us v=>by rw [St.put_M,St.upd_M];rfl
  have hids:∀x∈iZ o s.S,pM nx (fun k=>k < i) x:=fun x hx=>innL_iff.1 (uy hI (hlit i o hoi)) x hx
  have inv:∀e,fJ (HT P) D ops (nx+stride * i) o s.S s.M->iq D ops (nx+stride * i) o s.S s.M e->Inv nx (fun k=>k < i+1) (jY o e s.S) (rG e s.M):=fun e hs hre=>by
   obtain ⟨f1,f2,_,_⟩:=mX hI (hlit i o hoi) hs hre
   have h1:=hI.step (o:=o) f1 f2
   have h2:(fun k=>k < i\/k=i)=(fun k=>k < i+1):=by funext k;exact propext ⟨fun h=>by omega,fun h=>by omega⟩
   rw [h2] at h1
   exact h1
  have next:∀ (us:List Upd) (v:HV) ent,ent.1=i->ent.2.2=oK o s.S->(∀q∈ent :: log,∀o',ops[q.1]?=some o'->H9 nx (lH ops a0 q.1) o' q.1 q.2.1 q.2.2)->RI nx (lH ops a0 (i+1)) ((s.upd us).put o.dst v).S->Inv nx (fun k=>k < i+1) (jY o (v,us) s.S) (rG (v,us) s.M)->hops (CS P D) ops rest (i+1) K ((s.upd us).put o.dst v)->dr (HT P) D ops masks nx (fun S M=>∃s':St,s'.S=S/\s'.M=M/\s'.nx=nx/\K s') (List.range' (i+1) rest.length) (ent :: log) (jY o (v,us) s.S) (rG (v,us) s.M):=by
   intro us v ent he he2 hent hri hI' h'
   have:=ih (i+1) (ent :: log) ((s.upd us).put o.dst v) hdrop' (by rw [St.put_nx,St.upd_nx];exact hnx) (fun q hq=>by
    rcases List.mem_cons.1 hq with rfl|hq
    ·omega
    ·have:=hlog q hq;omega) hent hri (by rw [stepS,stepM];exact hI') (fun q hq x hx=>by
    rcases List.mem_cons.1 hq with rfl|hq
    ·rw [he2] at hx;rw [he];exact hids _ (qE hx)
    ·exact hlb q hq x hx) h'
   rw [stepS,stepM] at this
   exact this
  have hstr:s.nx+stride * (i+1)=nx+stride * i+stride:=by rw [hnx];unfold stride;omega
  have run:gd ops o s.S=some true->hop (CS P D) s i o (hops (CS P D) ops rest (i+1) K)->∃o',ops[i]?=some o'/\fJ (HT P) D ops (nx+stride * i) o' s.S s.M/\(∃e,iq D ops (nx+stride * i) o' s.S s.M e)/\∀e,iq D ops (nx+stride * i) o' s.S s.M e->(∀q∈log,chk masks ops i o' e s.S q)/\dr (HT P) D ops masks nx (fun S M=>∃s':St,s'.S=S/\s'.M=M/\s'.nx=nx/\K s') (List.range' (i+1) rest.length) ((i,ik o' s.S e.2,oK o' s.S) :: log) (jY o' e s.S) (rG e s.M):=by
   intro hg hh
   refine ⟨o,hoi,?_⟩
   unfold fJ iq
   rw [hg]
   simp only
   have hM:(fun i=>aW i s.st)=s.M:=rfl
   replace hh:=hh.resolve_right (fun h=>h)
   unfold hop0 at hh
   rw [kH,hM,hstr,hnx] at hh
   have callc:∀ (f:FuncId) (args xs:List HV),(∀t ids,Told nx (lH ops a0 i) o i t ids)/\(quiet (lH ops a0 i) o=false/\jS (lH ops a0 i) o=false/\qw (lH ops a0 i) o=false)->((HT P f args (D f args)/\∀r,D f args r->r.deep=[]->(bI xs || r.noRd)=true/\(unpack (nx+stride * i) r).2.2<=nx+stride * i+stride)->fJ (HT P) D ops (nx+stride * i) o s.S s.M)->(∀e:HV×List Upd,(∃r,D f args r/\r.deep=[]/\e=((unpack (nx+stride * i) r).1,(unpack (nx+stride * i) r).2.1))->iq D ops (nx+stride * i) o s.S s.M e)->(CS P D f args fun r=>(bI xs || r.noRd)=true/\(unpack (nx+stride * i) r).2.2<=nx+stride * i+stride/\hops (CS P D) ops rest (i+1) K ((s.upd (unpack (nx+stride * i) r).2.1).put o.dst (unpack (nx+stride * i) r).1)) ->
     (HT P f args (D f args)/\∀r,D f args r->r.deep=[]->(bI xs || r.noRd)=true/\(unpack (nx+stride * i) r).2.2<=nx+stride * i+stride)/\(∃e:HV×List Upd,∃r,D f args r/\r.deep=[]/\e=((unpack (nx+stride * i) r).1,(unpack (nx+stride * i) r).2.1)) /\
     ∀e:HV×List Upd,(∃r,D f args r/\r.deep=[]/\e=((unpack (nx+stride * i) r).1,(unpack (nx+stride * i) r).2.1))->(∀q∈log,chk masks ops i o e s.S q)/\dr (HT P) D ops masks nx (fun S M=>∃s':St,s'.S=S/\s'.M=M/\s'.nx=nx/\K s') (List.range' (i+1) rest.length) ((i,ik o s.S e.2,oK o s.S) :: log) (jY o e s.S) (rG e s.M):=by
    rintro f args xs hnq hf1 hf2 ⟨c1,⟨r0,c2,c3⟩,c4⟩
    have hsd:HT P f args (D f args)/\∀r,D f args r->r.deep=[]->(bI xs || r.noRd)=true/\(unpack (nx+stride * i) r).2.2<=nx+stride * i+stride:=⟨c1,fun r a b=>⟨(c4 r a b).1,(c4 r a b).2.1⟩⟩
    refine ⟨hsd,⟨_,r0,c2,c3,rfl⟩,?_⟩
    rintro e ⟨r,d1,d2,rfl⟩
    exact ⟨ck _ (hnq.1 _ _),next _ _ _ rfl rfl (hent _ (hnq.1 _ _)) (by rw [hacc,stepS];exact RI.loud hRI hnq.2 _ (hDn _ _ _ d1 _)) (inv _ (hf1 hsd) (hf2 _ ⟨r,d1,d2,rfl⟩)) (c4 r d1 d2).2.2⟩
   split at hh
   ·rename_i f xs heq
    rw [heq]
    have hq:=yK (nx:=nx) (a:=lH ops a0 i) (.inl ⟨f,xs,heq⟩)
    exact callc f _ xs ⟨fun t ids=>⟨(hq.1 t ids).1,(hq.1 t ids).2.1,fun h=>⟨((hq.1 t ids).2.2 h).1 i,((hq.1 t ids).2.2 h).2⟩⟩,hq.2⟩ (fun h=>by unfold fJ;rw [hg];simp only;rw [heq];exact h) (fun e h=>by unfold iq;rw [hg];simp only;rw [heq];exact h) hh
   ·rename_i f cap xs heq
    rw [heq]
    have hq:=yK (nx:=nx) (a:=lH ops a0 i) (.inr ⟨_,xs,heq⟩)
    exact callc f _ (xs ++ cap) ⟨fun t ids=>⟨(hq.1 t ids).1,(hq.1 t ids).2.1,fun h=>⟨((hq.1 t ids).2.2 h).1 i,((hq.1 t ids).2.2 h).2⟩⟩,hq.2⟩ (fun h=>by unfold fJ;rw [hg];simp only;rw [heq];exact h) (fun e h=>by unfold iq;rw [hg];simp only;rw [heq];exact h) hh
   ·rename_i op h1 h2
    have e1:mO (HT P) D s.M (nx+stride * i) (o.op.map (dW s.S))=(aS s.M (nx+stride * i) (o.op.map (dW s.S))).2.2:=by
     unfold mO;split
     ·rename_i f xs heq;exact absurd heq (h1 f xs)
     ·rename_i f cap xs heq;exact absurd heq (h2 f cap xs)
     ·rfl
    have e2:∀e,oZ D s.M (nx+stride * i) e (o.op.map (dW s.S))=(e=((aS s.M (nx+stride * i) (o.op.map (dW s.S))).1,(aS s.M (nx+stride * i) (o.op.map (dW s.S))).2.1)):=fun e=>by
     unfold oZ;split
     ·rename_i f xs heq;exact absurd heq (h1 f xs)
     ·rename_i f cap xs heq;exact absurd heq (h2 f cap xs)
     ·rfl
    rw [e1]
    simp only [e2]
    refine ⟨hh.1,⟨_,rfl⟩,?_⟩
    rintro e rfl
    have hus:Told nx (lH ops a0 i) o i (iH (aS s.M (nx+stride * i) (o.op.map (dW s.S))).2.1) (iZ o s.S) :=
     ⟨fun h=>⟨by rw [(zG hRI h _ _).1];rfl,zX hRI h⟩,fun h=>⟨by rw [(qN hRI h _ _).1];rfl,(qN hRI h s.M 0).2⟩,fun h=>⟨by rw [(tY hRI h _ _).1];intro x hx;simp at hx;subst hx;unfold uZ stride;omega,(tY hRI h s.M 0).2⟩⟩
    exact ⟨ck _ hus,next _ _ _ rfl rfl (hent _ hus) (by rw [hacc,stepS];exact RI.exec hRI) (inv _ (by unfold fJ;rw [hg];simp only;rw [e1];exact hh.1) (by unfold iq;rw [hg];simp only;rw [e2])) hh.2⟩
  simp only [hops] at h
  cases hg:o.guard with
  | none =>
   rw [hg] at h
   exact run (by unfold gd;rw [hg]) h
  | some jw =>
   obtain ⟨j,want⟩:=jw
   rw [hg] at h
   simp only at h
   cases hd:(ops[j]?).bind (·.dst) with
   | none=>rw [hd] at h;exact h.elim
   | some d =>
    rw [hd] at h
    simp only [Option.map_some] at h
    generalize hv:aW d s.sl=v at h
    cases v with
    | bool b =>
     simp only at h
     have hv':s.S d=.bool b:=hv
     have hgd:gd ops o s.S=some (b == want):=by unfold gd;rw [hg];simp only [hd,Option.map_some,hv']
     by_cases hbw:b=want
     ·exact run (by rw [hgd];simp [hbw]) (h.1 hbw)
     ·refine ⟨o,hoi,?_⟩
      have:(b == want)=false:=by simpa using hbw
      unfold fJ iq
      rw [hgd,this]
      simp only
      refine ⟨trivial,⟨_,rfl⟩,?_⟩
      rintro e rfl
      exact ⟨ck _ tskip,next [] (.tup []) _ rfl rfl (hent [] tskip) (by rw [hacc,stepS];exact RI.skip hRI (by rw [hg];simp)) (inv _ (by unfold fJ;rw [hgd,this];trivial) (by unfold iq;rw [hgd,this])) (h.2 hbw)⟩
    | tup cs =>
     cases cs with
     | cons _ _=>exact h.elim
     | nil =>
      simp only at h
      have hv':s.S d=.tup []:=hv
      have hgd:gd ops o s.S=some false:=by unfold gd;rw [hg];simp only [hd,Option.map_some,hv']
      refine ⟨o,hoi,?_⟩
      unfold fJ iq
      rw [hgd]
      simp only
      refine ⟨trivial,⟨_,rfl⟩,?_⟩
      rintro e rfl
      exact ⟨ck _ tskip,next [] (.tup []) _ rfl rfl (hent [] tskip) (by rw [hacc,stepS];exact RI.skip hRI (by rw [hg];simp)) (inv _ (by unfold fJ;rw [hgd];trivial) (by unfold iq;rw [hgd])) h⟩
    | _=>exact h.elim
theorem Ec {P:Program} {k:List HI} {Q:HE->St->Prop} {s:St} {ops:List aP} {masks:List Nat} (ro0 old0:List Nat) (h1:pq masks ops=true) (h2:Be masks ops (ro0,ro0 ++ old0,old0)=true) (D:FuncId->List HV->HV->Prop) (h0:∀t∈ro0,(aW t s.sl).deep=[]/\aW t s.sl≠.nils) (h00:∀t∈old0,(∀x∈(aW t s.sl).deep,x < s.nx)/\aW t s.sl≠.nils) (h:hx P (.o (CS P D) ops ops 0 :: k) Q s) (hDn:∀f args r,D f args r->∀fr,(unpack fr r).1.inn F0:=by intro _ _ _ h;exact h.elim):hx P (.c (.region (some masks) ops) :: k) Q s:=by
 refine O6 (Weak.refl s) ?_
 refine ⟨h1,fun hI=>.inl ⟨D,?_⟩⟩
 have hlit:∀i o,ops[i]?=some o->lh o=true:=fun i o ho=>(jH h1 ho).2.1
 have hI0:Inv s.nx (fun k=>k < 0) s.S s.M:=by
  have:(fun k:Nat=>k < 0)=fun _=>False:=by funext k;exact propext ⟨fun h=>by omega,fun h=>h.elim⟩
  rw [this];exact hI
 have hRI:RI s.nx (lH ops (ro0,ro0 ++ old0,old0) 0) s.S:=by
  refine ⟨fun t ht x hx=>?_,fun t ht=>?_,fun t ht=>(h00 t ht).1⟩
  ·have h3:=(h0 t ht).1
   have h4:s.S t=aW t s.sl:=rfl
   rw [h4,h3] at hx
   cases hx
  ·rcases List.mem_append.1 ht with ht|ht
   ·exact (h0 t ht).2
   ·exact (h00 t ht).2
 unfold hx at h
 have:=Kv hlit hDn h2 ops 0 [] s rfl rfl (by simp) (by simp) hRI hI0 (by simp) h
 rw [List.range_eq_range']
 exact this
end Go.HL
end
