import Derived.Test.YtlbdmpjnmfmnfaaCodesFstOperations
import Derived.Test.YtlbdmpjnmfmnfaaFwLb
import Derived.Test.YtlbdmpjnmfmnfaaFwH
import Derived.Test.YtlbdmpjnmfmnfaaFwF
import Derived.Test.YtlbdmpjnmfmnfaaFvg
import Derived.Test.YtlbdmpjnmfmnfaaFvb
import Derived.Test.YtlbdmpjnmfmnfaaHlA2
import Derived.Test.YtlbdmpjnmfmnfaaFs2
import Derived.Test.YtlbdmpjnmfmnfaaHlLo
import Derived.Test.YtlbdmpjnmfmnfaaFsB
set_option linter.unusedSimpArgs false
set_option linter.unusedVariables false
set_option linter.unnecessarySimpa false
set_option maxHeartbeats 16000000
namespace Go.Proofs.Ytlbdmpjnmfmnfaa
open Go.RowKit Go.HL Go.FS
theorem Vl {al bl:List A}:∀ (f i:Nat) (st st':CS),within st=true->yJ al bl f i st=some st'->within st'=true:=by
 intro f
 induction f with
 | zero=>intro i st st' _ h;cases h
 | succ f ih =>
  intro i st st' h0 h
  unfold yJ at h
  split at h
  ·split at h
   ·rename_i h2;exact ih _ _ _ h2 h
   ·cases h
  ·cases h;exact h0
theorem Vo (fs ft:List Bool) (al bl:List A):∃ (x:Tn) (e:Int),pK fs ft al bl=(x,e)/\x.1.length<=9000/\x.2.length<=9000/\((e=0)\/(x=([],[])/\(e=1\/e=4))):=by
 unfold pK
 split
 ·split
  ·rename_i st h
   have hw:=Vl _ _ _ _ (by decide) h
   simp only [within,decide_eq_true_eq] at hw
   exact ⟨_,_,rfl,by simp only [gB,List.length_map];omega,by simp only;omega,.inl rfl⟩
  ·exact ⟨_,_,rfl,by simp,by simp,.inr ⟨rfl,.inr rfl⟩⟩
 ·exact ⟨_,_,rfl,by simp,by simp,.inr ⟨rfl,.inl rfl⟩⟩
theorem V3 {x:Tn} (h:okF x.1 x.2=true):x.1.length<=9000/\x.2.length<=9000:=by
 have:=bY h;omega
theorem ae0 (a b:Tn):(I9 a b).1.length<=9000/\(I9 a b).2.length<=9000:=by
 by_cases h:Dc [a,b]=true
 ·exact V3 (aeF h).1
 ·unfold I9;rw [if_neg h];simp
theorem aaO (a b:Tn):(oJ a b).1.length<=9000/\(oJ a b).2.length<=9000:=by
 by_cases h:Dc [a,b]=true
 ·exact V3 (then_ok h).1
 ·unfold oJ;rw [if_neg h];simp
theorem Ze (a:Tn):(og a).1.length<=9000/\(og a).2.length<=9000:=by
 by_cases h:Dc [a]=true
 ·exact V3 (Za h).1
 ·unfold og;rw [if_neg h];simp
theorem abx (fin:List Bool) (al:List A) (h1:fin.length<=9000) (h2:al.length<=9000):(Dx fin al).1.length<=9000/\(Dx fin al).2.length<=9000:=by
 unfold Dx;split
 ·exact ⟨h1,by simpa using h2⟩
 ·simp
theorem aaX (d:Dz) (h:d.nx.length<=100):(GN d).1.length<=9000/\(GN d).2.length<=9000:=by
 unfold GN;split
 ·rename_i h0
  have h1:=wQ h0
  have h2:=yc h0 (bg d.nx.length)
  refine ⟨by simp only;omega,jc (List.length_filter_le _ _) ?_⟩
  unfold allA;omega
 ·simp
theorem abk (u v:List Int) (h:u.length<=8000) (h2:v.length<=8000):(FC u v).1.length<=9000/\(FC u v).2.length<=9000:=by
 have hn:ES u v<=8000:=by unfold ES;omega
 unfold FC;split
 ·simp
 ·simp only [List.length_set,List.length_replicate,CY];omega
theorem X6 {l m:List Int} (h:HL.ints l=HL.ints m):l=m:=by
 induction l generalizing m with
 | nil=>cases m with|nil=>rfl|cons y m=>simp [HL.ints] at h
 | cons x l ih=>cases m with
  | nil=>simp [HL.ints] at h
  | cons y m =>
   simp only [HL.ints,dV,uA,HV.int.injEq,true_and] at h ih
   rw [h.1,ih h.2]
theorem acy {l m:List (List Int)} (h:iT l=iT m):l=m:=by
 induction l generalizing m with
 | nil=>cases m with|nil=>rfl|cons y m=>simp [iT] at h
 | cons x l ih=>cases m with
  | nil=>simp [iT] at h
  | cons y m =>
   simp only [iT,dV,uA,HV.sl.injEq] at h ih
   rw [X6 h.1.2,ih h.2]
theorem abq {d e:Dz} (h:dC d=dC e):d=e:=by
 simp only [dC,uA,HV.int.injEq,HV.sl.injEq,true_and,and_true] at h
 obtain ⟨h1,⟨-,h2⟩,-,h3⟩:=h
 cases d;cases e
 simp only at h1 h2 h3
 rw [h1,acy h2,DV h3]
theorem Vr {L:Lk} {fr:Nat} {a b r:Int} (h:IntKind.i64.wrap (a.tdiv b)=r):ak L fr (.bin .quo (.int .i64 a) (.int .i64 b))=(.int .i64 r,[],IntKind.i64=IntKind.i64/\b≠0):=by subst h;rfl
def opD (o t s i:Tn) (f:FuncId) (r:HV):Prop :=
 if f=36 then r=.bool true
 else if f=29 then r=.agg (fC o)
 else if f=37 then r=.agg (fC o)
 else if f=30 then r=.agg (fC t)
 else if f=38 then r=.agg (fC t)
 else if f=34 then r=.agg (fC s)
 else if f=39 then r=.agg (fC s)
 else r=.agg (fC i)
theorem YG {kk:List HI} {rs:List Nat} {Kp:HV->Prop} [hp:Plain kk] (m k w:List Int) (at_ how:Int) (s t:Tn) (s1:s.1.length<=2000) (s2:s.2.length<=2000) (t1:t.1.length<=2000) (t2:t.2.length<=2000) (ha : -9223372036854775808<=at_/\at_<=9223372036854775807) (hh : -9223372036854775808<=how/\how<=9223372036854775807)
  (h:∀cs:List HV,cs.length=4->(∀i,i<4->∃a b:Tn,cs.getD i .dead=.sl 2 [.sl a.1.length (HL.bools a.1),.sl a.2.length (recs aC a.2),.sl b.1.length (HL.bools b.1),.sl b.2.length (recs aC b.2)]/\a.1.length<=9000/\a.2.length<=9000/\b.1.length<=9000/\b.2.length<=9000)->hx Try.prog (.c abn::kk) (finish rs Kp) ⟨[(1,.sl m.length (HL.ints m)),(2,.sl k.length (HL.ints k)),(3,.sl w.length (HL.ints w)),(4,.int .i64 at_),(5,.int .i64 how),(12,.bool false),(15,.sl 4 cs)],[],0⟩) :
  hx Try.prog (.c Xv::kk) (finish rs Kp) ⟨[(1,.sl m.length (HL.ints m)),(2,.sl k.length (HL.ints k)),(3,.sl w.length (HL.ints w)),(4,.int .i64 at_),(5,.int .i64 how),(12,.bool false),(13,.ptr [.sl s.1.length (HL.bools s.1),.sl s.2.length (recs aC s.2)] 0),(14,.ptr [.sl t.1.length (HL.bools t.1),.sl t.2.length (recs aC t.2)] 0)],[],0⟩:=by
 have hq:=aaW how hh
 have hw8:IntKind.i64.wrap (Int.tdiv how 8)=Int.tdiv how 8:=IntWalk.i64_in _ hq
 have sp1:=(I5 s.1 s.2 at_ how s1 s2 ha hh).mono fun r ⟨f,l,h⟩=>show ∃y:Tn,r=HV.agg [.sl y.1.length (HL.bools y.1),.sl y.2.length (recs aC y.2)]/\y.1.length<=9000/\y.2.length<=9000 from ⟨(f,l),h⟩
 have sp2:=(I5 t.1 t.2 at_ (Int.tdiv how 8) t1 t2 ha hq).mono fun r ⟨f,l,h⟩=>show ∃y:Tn,r=HV.agg [.sl y.1.length (HL.bools y.1),.sl y.2.length (recs aC y.2)]/\y.1.length<=9000/\y.2.length<=9000 from ⟨(f,l),h⟩
 simp only [dE,fB] at sp1 sp2
 unfold Xv
 refine aH ?_
 refine ve (DS.of fun _ _ r=>∃y:Tn,r=HV.agg [.sl y.1.length (HL.bools y.1),.sl y.2.length (recs aC y.2)]/\y.1.length<=9000/\y.2.length<=9000) ah ?_
 refine dP (.agg [.sl s.1.length (HL.bools s.1),.sl s.2.length (recs aC s.2)]) [] rfl rfl (aZ rfl) (by simp [lV,qx,fO,HOp.map,HOp.vals,bZ,ax,aO,HV.deep,bJ,bP]) ah ?_
 refine dP (.agg [.sl t.1.length (HL.bools t.1),.sl t.2.length (recs aC t.2)]) [] rfl rfl (aZ rfl) (by simp [lV,qx,fO,HOp.map,HOp.vals,bZ,ax,aO,HV.deep,bJ,bP]) ah ?_
 refine Bg (R:=[]) (.ref 32 [] 2 0 2) [.put 32 (.osl 2 2 [.sl s.1.length (HL.bools s.1),.sl s.2.length (recs aC s.2),.sl t.1.length (HL.bools t.1),.sl t.2.length (recs aC t.2)])] rfl rfl rfl zV rfl (by simp [lV,qx,fO,HOp.map,HOp.vals,bZ,ax,aO,HV.deep,bJ,bP]) ah gY ?_
 refine dP (.agg [.sl t.1.length (HL.bools t.1),.sl t.2.length (recs aC t.2)]) [] rfl rfl (aZ rfl) (by simp [lV,qx,fO,HOp.map,HOp.vals,bZ,ax,aO,HV.deep,bJ,bP]) ah ?_
 refine dP (.agg [.sl s.1.length (HL.bools s.1),.sl s.2.length (recs aC s.2)]) [] rfl rfl (aZ rfl) (by simp [lV,qx,fO,HOp.map,HOp.vals,bZ,ax,aO,HV.deep,bJ,bP]) ah ?_
 refine Bg (R:=[]) (.ref 80 [] 2 0 2) [.put 80 (.osl 2 2 [.sl t.1.length (HL.bools t.1),.sl t.2.length (recs aC t.2),.sl s.1.length (HL.bools s.1),.sl s.2.length (recs aC s.2)])] rfl rfl rfl zV rfl (by simp [lV,qx,fO,HOp.map,HOp.vals,bZ,ax,aO,HV.deep,bJ,bP]) ah gY ?_
 refine dP (.agg [.sl s.1.length (HL.bools s.1),.sl s.2.length (recs aC s.2)]) [] rfl rfl (aZ rfl) (by simp [lV,qx,fO,HOp.map,HOp.vals,bZ,ax,aO,HV.deep,bJ,bP]) ah ?_
 refine dP (.int .i64 at_) _ rfl rfl (by trivial) rfl ah ?_
 refine dP (.int .i64 how) _ rfl rfl (by trivial) rfl ah ?_
 refine tN (R:=[]) (vs:=[.agg [.sl s.1.length (HL.bools s.1),.sl s.2.length (recs aC s.2)],.int .i64 at_,.int .i64 how]) (args:=[.agg [.sl s.1.length (HL.bools s.1),.sl s.2.length (recs aC s.2)],.int .i64 at_,.int .i64 how]) rfl rfl rfl sp1 ⟨.agg [.sl 0 (HL.bools []),.sl 0 (recs aC [])],⟨([],[]),rfl,by simp,by simp⟩,rfl⟩ (by simp [lV,qx,fO,HOp.map,HOp.vals,bZ,ax,aO,HV.deep,bJ,bP]) ?_
 rintro _ ⟨y,rfl,y1,y2⟩ -
 refine ⟨rfl,.agg [.sl y.1.length (HL.bools y.1),.sl y.2.length (recs aC y.2)],[],144,[],_,_,rfl,by decide,rfl,by kernel_rfl,gY,?_⟩
 refine dP (.agg [.sl t.1.length (HL.bools t.1),.sl t.2.length (recs aC t.2)]) [] rfl rfl (aZ rfl) (by simp [lV,qx,fO,HOp.map,HOp.vals,bZ,ax,aO,HV.deep,bJ,bP]) ah ?_
 refine Bg (R:=[]) (.ref 176 [] 2 0 2) [.put 176 (.osl 2 2 [.sl y.1.length (HL.bools y.1),.sl y.2.length (recs aC y.2),.sl t.1.length (HL.bools t.1),.sl t.2.length (recs aC t.2)])] rfl rfl rfl zV rfl (by simp [lV,qx,fO,HOp.map,HOp.vals,bZ,ax,aO,HV.deep,bJ,bP]) ah gY ?_
 refine dP (.agg [.sl s.1.length (HL.bools s.1),.sl s.2.length (recs aC s.2)]) [] rfl rfl (aZ rfl) (by simp [lV,qx,fO,HOp.map,HOp.vals,bZ,ax,aO,HV.deep,bJ,bP]) ah ?_
 refine dP (.agg [.sl t.1.length (HL.bools t.1),.sl t.2.length (recs aC t.2)]) [] rfl rfl (aZ rfl) (by simp [lV,qx,fO,HOp.map,HOp.vals,bZ,ax,aO,HV.deep,bJ,bP]) ah ?_
 refine dP (.int .i64 at_) _ rfl rfl (by trivial) rfl ah ?_
 refine dP (.int .i64 how) _ rfl rfl (by trivial) rfl ah ?_
 refine dP (side:=IntKind.i64=IntKind.i64/\(8:Int)≠0) (.int .i64 (Int.tdiv how 8)) _ rfl (Vr hw8) ⟨rfl,by decide⟩ rfl ah ?_
 refine tN (R:=[]) (vs:=[.agg [.sl t.1.length (HL.bools t.1),.sl t.2.length (recs aC t.2)],.int .i64 at_,.int .i64 (Int.tdiv how 8)]) (args:=[.agg [.sl t.1.length (HL.bools t.1),.sl t.2.length (recs aC t.2)],.int .i64 at_,.int .i64 (Int.tdiv how 8)]) rfl rfl rfl sp2 ⟨.agg [.sl 0 (HL.bools []),.sl 0 (recs aC [])],⟨([],[]),rfl,by simp,by simp⟩,rfl⟩ (by simp [lV,qx,fO,HOp.map,HOp.vals,bZ,ax,aO,HV.deep,bJ,bP]) ?_
 rintro _ ⟨z,rfl,z1,z2⟩ -
 refine ⟨rfl,.agg [.sl z.1.length (HL.bools z.1),.sl z.2.length (recs aC z.2)],[],272,[],_,_,rfl,by decide,rfl,by kernel_rfl,gY,?_⟩
 refine Bg (R:=[]) (.ref 288 [] 2 0 2) [.put 288 (.osl 2 2 [.sl s.1.length (HL.bools s.1),.sl s.2.length (recs aC s.2),.sl z.1.length (HL.bools z.1),.sl z.2.length (recs aC z.2)])] rfl rfl rfl zV rfl (by simp [lV,qx,fO,HOp.map,HOp.vals,bZ,ax,aO,HV.deep,bJ,bP]) ah gY ?_
 refine Bg (.ref 304 [] 1 0 4) [.put 32 .dead,.put 80 .dead,.put 176 .dead,.put 288 .dead,.put 304 (.osl 1 4 [.osl 2 2 [.sl s.1.length (HL.bools s.1),.sl s.2.length (recs aC s.2),.sl t.1.length (HL.bools t.1),.sl t.2.length (recs aC t.2)],.osl 2 2 [.sl t.1.length (HL.bools t.1),.sl t.2.length (recs aC t.2),.sl s.1.length (HL.bools s.1),.sl s.2.length (recs aC s.2)],.osl 2 2 [.sl y.1.length (HL.bools y.1),.sl y.2.length (recs aC y.2),.sl t.1.length (HL.bools t.1),.sl t.2.length (recs aC t.2)],.osl 2 2 [.sl s.1.length (HL.bools s.1),.sl s.2.length (recs aC s.2),.sl z.1.length (HL.bools z.1),.sl z.2.length (recs aC z.2)]])] rfl rfl rfl (by refine ⟨?_,rfl,rfl⟩;repeat (first|trivial|rfl|refine ⟨?_,?_⟩)) rfl rfl ah gY ?_
 refine dP (.ref 304 [] 1 0 4) _ rfl rfl (by trivial) rfl ah ?_
 refine JA rfl ?_
 refine az 304 [1,2,3,4,5,12,15] ⟨[(1,.sl m.length (HL.ints m)),(2,.sl k.length (HL.ints k)),(3,.sl w.length (HL.ints w)),(4,.int .i64 at_),(5,.int .i64 how),(12,.bool false),(15,.sl 4 (stripL [.osl 2 2 [.sl s.1.length (HL.bools s.1),.sl s.2.length (recs aC s.2),.sl t.1.length (HL.bools t.1),.sl t.2.length (recs aC t.2)],.osl 2 2 [.sl t.1.length (HL.bools t.1),.sl t.2.length (recs aC t.2),.sl s.1.length (HL.bools s.1),.sl s.2.length (recs aC s.2)],.osl 2 2 [.sl y.1.length (HL.bools y.1),.sl y.2.length (recs aC y.2),.sl t.1.length (HL.bools t.1),.sl t.2.length (recs aC t.2)],.osl 2 2 [.sl s.1.length (HL.bools s.1),.sl s.2.length (recs aC s.2),.sl z.1.length (HL.bools z.1),.sl z.2.length (recs aC z.2)]]))],[],0⟩ rfl ?_
 rw [show stripL [.osl 2 2 [.sl s.1.length (HL.bools s.1),.sl s.2.length (recs aC s.2),.sl t.1.length (HL.bools t.1),.sl t.2.length (recs aC t.2)],.osl 2 2 [.sl t.1.length (HL.bools t.1),.sl t.2.length (recs aC t.2),.sl s.1.length (HL.bools s.1),.sl s.2.length (recs aC s.2)],.osl 2 2 [.sl y.1.length (HL.bools y.1),.sl y.2.length (recs aC y.2),.sl t.1.length (HL.bools t.1),.sl t.2.length (recs aC t.2)],.osl 2 2 [.sl s.1.length (HL.bools s.1),.sl s.2.length (recs aC s.2),.sl z.1.length (HL.bools z.1),.sl z.2.length (recs aC z.2)]]=[.sl 2 [.sl s.1.length (HL.bools s.1),.sl s.2.length (recs aC s.2),.sl t.1.length (HL.bools t.1),.sl t.2.length (recs aC t.2)],.sl 2 [.sl t.1.length (HL.bools t.1),.sl t.2.length (recs aC t.2),.sl s.1.length (HL.bools s.1),.sl s.2.length (recs aC s.2)],.sl 2 [.sl y.1.length (HL.bools y.1),.sl y.2.length (recs aC y.2),.sl t.1.length (HL.bools t.1),.sl t.2.length (recs aC t.2)],.sl 2 [.sl s.1.length (HL.bools s.1),.sl s.2.length (recs aC s.2),.sl z.1.length (HL.bools z.1),.sl z.2.length (recs aC z.2)]] from by simp only [stripL,HV.strip,HL.bools_strip,gQ]]
 refine h [.sl 2 [.sl s.1.length (HL.bools s.1),.sl s.2.length (recs aC s.2),.sl t.1.length (HL.bools t.1),.sl t.2.length (recs aC t.2)],.sl 2 [.sl t.1.length (HL.bools t.1),.sl t.2.length (recs aC t.2),.sl s.1.length (HL.bools s.1),.sl s.2.length (recs aC s.2)],.sl 2 [.sl y.1.length (HL.bools y.1),.sl y.2.length (recs aC y.2),.sl t.1.length (HL.bools t.1),.sl t.2.length (recs aC t.2)],.sl 2 [.sl s.1.length (HL.bools s.1),.sl s.2.length (recs aC s.2),.sl z.1.length (HL.bools z.1),.sl z.2.length (recs aC z.2)]] rfl fun i hi=>?_
 obtain rfl|rfl|rfl|rfl:i=0\/i=1\/i=2\/i=3:=by omega
 ·exact ⟨s,t,rfl,by omega,by omega,by omega,by omega⟩
 ·exact ⟨t,s,rfl,by omega,by omega,by omega,by omega⟩
 ·exact ⟨y,t,rfl,by omega,by omega,by omega,by omega⟩
 ·exact ⟨s,z,rfl,by omega,by omega,by omega,by omega⟩
theorem Qw {kk:List HI} {rs:List Nat} {Kp:HV->Prop} [hp:Plain kk] (m k w:List Int) (at_ how:Int) (cs:List HV) (i:Nat) (a b:Tn) (a1:a.1.length<=9000) (a2:a.2.length<=9000) (b1:b.1.length<=9000) (b2:b.2.length<=9000) (hwl:w.length<=9223372036854775807) (hwr:∀i,i<w.length -> -9223372036854775808<=w.getD i 0/\w.getD i 0<=9223372036854775807)
  (h:hx Try.prog (.c abH::kk) (finish rs Kp) ⟨[(1,.sl m.length (HL.ints m)),(2,.sl k.length (HL.ints k)),(3,.sl w.length (HL.ints w)),(4,.int .i64 at_),(5,.int .i64 how),(12,.bool false),(15,.sl 4 cs),(16,.int .i64 i)],[],0⟩) :
  hx Try.prog (.c aev::.b 1::.c abH::kk) (finish rs Kp) ⟨[(1,.sl m.length (HL.ints m)),(2,.sl k.length (HL.ints k)),(3,.sl w.length (HL.ints w)),(4,.int .i64 at_),(5,.int .i64 how),(12,.bool false),(15,.sl 4 cs),(16,.int .i64 i),(17,.ptr [.sl a.1.length (HL.bools a.1),.sl a.2.length (recs aC a.2)] 0),(18,.ptr [.sl b.1.length (HL.bools b.1),.sl b.2.length (recs aC b.2)] 0)],[],0⟩:=by
 have o1:=(ad3 a b ⟨by omega,by omega⟩ ⟨by omega,by omega⟩)
 have o2:=(acF a b ⟨by omega,by omega⟩ ⟨by omega,by omega⟩)
 have u1:=(ZY a b ⟨by omega,by omega⟩ ⟨by omega,by omega⟩)
 have u2:=(YY a b ⟨by omega,by omega⟩ ⟨by omega,by omega⟩)
 have v1:=(Zy a ⟨by omega,by omega⟩)
 have v2:=(Xf a ⟨by omega,by omega⟩)
 have w1:=(JR a.1 a.2 (by omega) (by omega))
 have w2:=(Q8 a.1 a.2 (by omega) (by omega))
 obtain ⟨oo1,oo2⟩:=ae0 a b
 obtain ⟨tt1,tt2⟩:=aaO a b
 obtain ⟨ss1,ss2⟩:=Ze a
 obtain ⟨ii1,ii2⟩:=abx a.1 a.2 a1 a2
 simp only [dE,fB] at w1 w2
 generalize I9 a b=oF at o1 o2 oo1 oo2
 generalize oJ a b=tF at u1 u2 tt1 tt2
 generalize og a=sF at v1 v2 ss1 ss2
 generalize Dx a.1 a.2=iF at w1 w2 ii1 ii2
 have q1:=pF oF w oo1 oo2 hwl hwr
 have q2:=pF tF w tt1 tt2 hwl hwr
 have q3:=pF sF w ss1 ss2 hwl hwr
 have q4:=pF iF w ii1 ii2 hwl hwr
 have dp:∀x:Tn,(HV.agg [.sl x.1.length (HL.bools x.1),.sl x.2.length (recs aC x.2)]).deep=[]:=fun x=>CG x
 simp only [fC,I] at o1 o2 u1 u2 v1 v2 q1 q2 q3 q4
 refine aH ?_
 refine bG ah ah (fun f _ r=>opD oF tF sF iF f r) ?_
 refine zF ⟨?_⟩
 refine bI ay aK o1 ⟨_,rfl,dp _⟩ ?_
 intro r hr hdd
 clear hdd
 obtain rfl:=(show r=.agg [.sl oF.1.length (HL.bools oF.1),.sl oF.2.length (recs aC oF.2)] from hr)
 clear hr
 refine zG ⟨?_⟩
 refine zF ⟨?_⟩
 refine bI ay aK o2 ⟨_,rfl,dp _⟩ ?_
 intro r hr hdd
 clear hdd
 obtain rfl:=(show r=.agg [.sl oF.1.length (HL.bools oF.1),.sl oF.2.length (recs aC oF.2)] from hr)
 clear hr
 refine zG ⟨?_⟩
 refine zF ⟨?_⟩
 refine bI ay aK q1 ⟨_,rfl,rfl⟩ ?_
 intro r hr hdd
 clear hdd
 obtain rfl:=(show r=.bool true from hr)
 clear hr
 refine zG ⟨?_⟩
 refine zF ⟨?_⟩
 refine bI ay aK u1 ⟨_,rfl,dp _⟩ ?_
 intro r hr hdd
 clear hdd
 obtain rfl:=(show r=.agg [.sl tF.1.length (HL.bools tF.1),.sl tF.2.length (recs aC tF.2)] from hr)
 clear hr
 refine zG ⟨?_⟩
 refine zF ⟨?_⟩
 refine bI ay aK u2 ⟨_,rfl,dp _⟩ ?_
 intro r hr hdd
 clear hdd
 obtain rfl:=(show r=.agg [.sl tF.1.length (HL.bools tF.1),.sl tF.2.length (recs aC tF.2)] from hr)
 clear hr
 refine zG ⟨?_⟩
 refine zF ⟨?_⟩
 refine bI ay aK q2 ⟨_,rfl,rfl⟩ ?_
 intro r hr hdd
 clear hdd
 obtain rfl:=(show r=.bool true from hr)
 clear hr
 refine zG ⟨?_⟩
 refine zF ⟨?_⟩
 refine bI ay aK v1 ⟨_,rfl,dp _⟩ ?_
 intro r hr hdd
 clear hdd
 obtain rfl:=(show r=.agg [.sl sF.1.length (HL.bools sF.1),.sl sF.2.length (recs aC sF.2)] from hr)
 clear hr
 refine zG ⟨?_⟩
 refine zF ⟨?_⟩
 refine bI ay aK v2 ⟨_,rfl,dp _⟩ ?_
 intro r hr hdd
 clear hdd
 obtain rfl:=(show r=.agg [.sl sF.1.length (HL.bools sF.1),.sl sF.2.length (recs aC sF.2)] from hr)
 clear hr
 refine zG ⟨?_⟩
 refine zF ⟨?_⟩
 refine bI ay aK q3 ⟨_,rfl,rfl⟩ ?_
 intro r hr hdd
 clear hdd
 obtain rfl:=(show r=.bool true from hr)
 clear hr
 refine zG ⟨?_⟩
 refine zF ⟨?_⟩
 refine bI ay aK w1 ⟨_,rfl,dp _⟩ ?_
 intro r hr hdd
 clear hdd
 obtain rfl:=(show r=.agg [.sl iF.1.length (HL.bools iF.1),.sl iF.2.length (recs aC iF.2)] from hr)
 clear hr
 refine zG ⟨?_⟩
 refine zF ⟨?_⟩
 refine bI ay aK w2 ⟨_,rfl,dp _⟩ ?_
 intro r hr hdd
 clear hdd
 obtain rfl:=(show r=.agg [.sl iF.1.length (HL.bools iF.1),.sl iF.2.length (recs aC iF.2)] from hr)
 clear hr
 refine zG ⟨?_⟩
 refine zF ⟨?_⟩
 refine bI ay aK q4 ⟨_,rfl,rfl⟩ ?_
 intro r hr hdd
 clear hdd
 obtain rfl:=(show r=.bool true from hr)
 clear hr
 refine zG ⟨?_⟩
 refine zQ ⟨?_⟩
 refine bu (by rfl) ?_
 refine jD ?_
 refine BP ?_
 exact aY [1,2,3,4,5,12,15,16] _ rfl h
end Go.Proofs.Ytlbdmpjnmfmnfaa
