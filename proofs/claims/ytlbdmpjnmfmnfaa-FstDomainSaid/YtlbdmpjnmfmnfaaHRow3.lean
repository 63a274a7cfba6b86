import Derived.Test.YtlbdmpjnmfmnfaaCodesFstDomain
import Derived.Test.YtlbdmpjnmfmnfaaDmJ
import Derived.Test.YtlbdmpjnmfmnfaaDrC
import Derived.Test.YtlbdmpjnmfmnfaaDmB
import Derived.Test.YtlbdmpjnmfmnfaaFt2
import Derived.Test.YtlbdmpjnmfmnfaaFt8
import Derived.Test.YtlbdmpjnmfmnfaaHlCv
import Derived.Test.YtlbdmpjnmfmnfaaHlW
import Derived.Test.YtlbdmpjnmfmnfaaMnA
set_option linter.unusedSimpArgs false
set_option linter.unusedVariables false
set_option maxHeartbeats 16000000
section
namespace Go.Proofs.Ytlbdmpjnmfmnfaa
open Go.RowKit Go.HL Go.FS Go.MN
theorem IG (fin:List Bool) (al:List A) (z:Int) (hb1:fin.length<=9000) (hb2:al.length<=9000) (hb3:okF fin al=true->fin.length<=10) (hz : -9223372036854775808<=z/\z<=9223372036854775807):HT Try.prog 46 [.agg (dR fin al),.int .i64 z] (Ci fin al z):=by
 by_cases h:okF fin al=true/\1<=z/\z<=64
 ·exact QG fin al z h.1 (hb3 h.1) h.2
 ·exact Qi fin al z hb1 hb2 hz h
theorem OV (fin:List Bool) (al:List A) (z:Int) (hb1:fin.length<=9000) (hb2:al.length<=9000) (hb3:okF fin al=true->fin.length<=10) (hz : -9223372036854775808<=z/\z<=9223372036854775807):HT Try.prog 47 [.agg (dR fin al),.int .i64 z] (Ci fin al z):=by
 by_cases h:okF fin al=true/\1<=z/\z<=64
 ·exact NU fin al z h.1 (hb3 h.1) h.2
 ·exact Oi fin al z hb1 hb2 hz h
theorem JQ {fin:List Bool} {al:List A} {sz:Int} (h:okF fin al=true/\1<=sz/\sz<=64) {r:HV}:Ci fin al sz r->∃rows fn,DomR fin al sz.toNat rows fn/\r=.tup [.agg [.int .i64 sz,.sl rows.length (iT (rI rows)),.sl fn.length (HL.bools fn)],.int .i64 0]:=by
 unfold Ci;rw [if_pos h]
 rintro ⟨rows,fn,h1,rfl⟩
 exact ⟨rows,fn,h1,by simp only [dC,jf]⟩
theorem Oe {fin:List Bool} {al:List A} {sz:Int} (h:¬ (okF fin al=true/\1<=sz/\sz<=64)) {r:HV}:Ci fin al sz r->r=.tup [.agg [.int .i64 0,.nils,.nils],.int .i64 1]:=by unfold Ci;rw [if_neg h];exact id
theorem aah (fin:List Bool) (al:List A) (sz:Int) (hn:fin.length<=10):∃r:HV,(∃rows fn,DomR fin al sz.toNat rows fn/\r=.tup [.agg [.int .i64 sz,.sl rows.length (iT (rI rows)),.sl fn.length (HL.bools fn)],.int .i64 0])/\r.deep=[]:=by
 obtain ⟨rows,fn,h⟩:=DomR.ex fin al sz.toNat hn
 exact ⟨_,⟨rows,fn,h,rfl⟩,by simp [HV.deep,aQ,FC,kW]⟩
theorem KJ (l w:List Int) (size at_ how:Int) (hl:l.length<=9223372036854775807) (hr:∀k,k<l.length -> -9223372036854775808<=l.getD k 0/\l.getD k 0<=9223372036854775807) (hw:w.length<=9223372036854775807) (hwr:∀k,k<w.length -> -9223372036854775808<=w.getD k 0/\w.getD k 0<=9223372036854775807)
  (hm : -9223372036854775808<=size/\size<=9223372036854775807) (ha : -9223372036854775808<=at_/\at_<=9223372036854775807) (hh : -9223372036854775808<=how/\how<=9223372036854775807) :
  HT Try.prog 10 [I l,I w,.int .i64 size,.int .i64 at_,.int .i64 how] (fun r=>r=.bool true):=by
 refine HT.of rfl ae3 (bF rfl) ?_
 unfold c10
 simp only [I,ay,Nat.reduceAdd]
 refine zF ⟨?_⟩
 refine aX aG aaG (YS l hl hr) ?_
 rintro _ ⟨fin,al,rfl,hf1,hf2,hal,hv⟩
 simp only [dR,fU]
 refine zG ⟨?_⟩
 refine zQ ⟨?_⟩
 refine aP 48 [1,2,3,4,10,11] ⟨[(1,.sl w.length (HL.ints w)),(2,.int .i64 size),(3,.int .i64 at_),(4,.int .i64 how),(10,.bool false),(11,.ptr (stripL [.sl fin.length (HL.bools fin),.sl al.length (recs aC al)]) 0)],[],0⟩ rfl ?_
 rw [pM]
 have hsp:=O8 fin al at_ how (by omega) (by omega) ha hh
 simp only [dR,fU] at hsp
 refine aU ?_
 refine bJ aA aA (fun f _ r=>∃f2 a2,r=.agg [.sl f2.length (HL.bools f2),.sl a2.length (recs aC a2)]/\f2.length<=9000/\a2.length<=9000/\(f2.length<=fin.length\/f2.length=2049)) ?_
 refine zF ⟨?_⟩
 refine fG aG bz hsp ⟨.agg [.sl 0 (HL.bools []),.sl 0 (recs aC [])],⟨[],[],rfl,by simp,by simp,by simp⟩,rfl⟩ ?_
 rintro _ ⟨f2,a2,rfl,hf3,ha3,hfx⟩ -
 refine zG ⟨?_⟩
 refine zQ ⟨?_⟩
 refine aP 80 [1,2,10,11,12] ⟨[(1,.sl w.length (HL.ints w)),(2,.int .i64 size),(10,.bool false),(11,.ptr [.sl fin.length (HL.bools fin),.sl al.length (recs aC al)] 0),(12,.sl 2 (stripL [.sl fin.length (HL.bools fin),.sl al.length (recs aC al),.sl f2.length (HL.bools f2),.sl a2.length (recs aC a2)]))],[],0⟩ rfl ?_
 rw [show stripL [.sl fin.length (HL.bools fin),.sl al.length (recs aC al),.sl f2.length (HL.bools f2),.sl a2.length (recs aC a2)]=recs fC [(fin,al),(f2,a2)] by simp only [stripL,HV.strip,HL.bools_strip,jO];rfl]
 obtain ⟨T,hT⟩:∃T,T=[(fin,al),(f2,a2)]:=⟨_,rfl⟩
 have hTl:T.length=2:=by rw [hT];rfl
 have hTb:∀k,(T.getD k default).1.length<=9000/\(T.getD k default).2.length<=9000/\(okF (T.getD k default).1 (T.getD k default).2=true->(T.getD k default).1.length<=10):=fun k=>by
  rw [hT]
  rcases k with _|_|k
  ·exact ⟨by simp only [List.getD_cons_zero];omega,by simp only [List.getD_cons_zero];omega,fun _=>by simp only [List.getD_cons_zero];omega⟩
  ·exact ⟨hf3,ha3,fun h=>by
    have:=(lF h).2.1
    simp only [List.getD_cons_succ,List.getD_cons_zero] at this ⊢
    omega⟩
  ·exact ⟨dS _,dS _,fun _=>dS _⟩
 rw [<- hT]
 clear hT hsp hf3 ha3 hfx ha hh hr hl
 refine zF ⟨?_⟩
 refine aX aG bz (wP size 4 (by omega) (by omega) hm.1 hm.2) ?_
 rintro _ ⟨y,rfl,hy⟩
 refine zG ⟨?_⟩
 refine zQ ⟨?_⟩
 refine aP 64 [1,10,11,12,13] ⟨[(1,.sl w.length (HL.ints w)),(10,.bool false),(11,.ptr [.sl fin.length (HL.bools fin),.sl al.length (recs aC al)] 0),(12,.sl 2 (recs fC T)),(13,.sl 3 (HL.ints [size,1+(y:Int),3]))],[],0⟩ rfl ?_
 obtain ⟨Z,hZ⟩:∃Z,Z=[size,1+(y:Int),3]:=⟨_,rfl⟩
 have hZl:Z.length=3:=by rw [hZ];rfl
 have hZb:∀k,-9223372036854775808<=Z.getD k 0/\Z.getD k 0<=9223372036854775807:=fun k=>by
  rw [hZ]
  rcases k with _|_|_|k
  ·exact hm
  ·simp only [List.getD_cons_succ,List.getD_cons_zero];omega
  ·simp only [List.getD_cons_succ,List.getD_cons_zero];omega
  ·simp only [List.getD_cons_succ];rw [bf];simp
 rw [<- hZ]
 clear hZ hy hm
 refine zF ⟨?_⟩
 refine aF [1,10,11,12,13,14] (fun i:Nat=>i<=2) (fun i=>⟨[(1,.sl w.length (HL.ints w)),(10,.bool false),(11,.ptr [.sl fin.length (HL.bools fin),.sl al.length (recs aC al)] 0),(12,.sl 2 (recs fC T)),(13,.sl 3 (HL.ints Z)),(14,.int .i64 i)],[],0⟩) (fun i=>2 - i) 0 (by omega) rfl ?_
 intro i hi
 by_cases hil:i<2
 ·refine zF ⟨?_⟩
  refine aF [1,10,11,12,13,14,15] (fun k:Nat=>k<=3) (fun k=>⟨[(1,.sl w.length (HL.ints w)),(10,.bool false),(11,.ptr [.sl fin.length (HL.bools fin),.sl al.length (recs aC al)] 0),(12,.sl 2 (recs fC T)),(13,.sl 3 (HL.ints Z)),(14,.int .i64 i),(15,.int .i64 k)],[],0⟩) (fun k=>3 - k) 0 (by omega) rfl ?_
  intro k hk
  by_cases hkl:k<3
  ·obtain ⟨hb1,hb2,hb3⟩:=hTb i
   have hzb:=hZb k
   have hz:(HL.ints Z).getD k .dead=.int .i64 (Z.getD k 0):=AX (by omega)
   have hd1:=IG (T.getD i default).1 (T.getD i default).2 (Z.getD k 0) hb1 hb2 hb3 hzb
   have hd2:=OV (T.getD i default).1 (T.getD i default).2 (Z.getD k 0) hb1 hb2 hb3 hzb
   simp only [dR,fU] at hd1 hd2
   by_cases hok:okF (T.getD i default).1 (T.getD i default).2=true/\1<=Z.getD k 0/\Z.getD k 0<=64
   ·have hn5:=hb3 hok.1
    have hd1':=hd1.imp fun r h=>JQ hok h
    have hd2':=hd2.imp fun r h=>JQ hok h
    have hex:=aah (T.getD i default).1 (T.getD i default).2 (Z.getD k 0) hn5
    have hkd:∀rows fn,DomR (T.getD i default).1 (T.getD i default).2 (Z.getD k 0).toNat rows fn->okD ⟨Z.getD k 0,rI rows,fn⟩=true:=fun rows fn h=>DomR.okD hn5 hok.2 h
    generalize Z.getD k 0=z at hz hd1' hd2' hex hkd
    refine zF ⟨?_⟩
    refine bJ aA aA (fun _ _ r=>∃rows fn,DomR (T.getD i default).1 (T.getD i default).2 z.toNat rows fn/\r=.tup [.agg [.int .i64 z,.sl rows.length (iT (rI rows)),.sl fn.length (HL.bools fn)],.int .i64 0]) ?_
    refine fP @hz ⟨?_⟩
    refine fG aG bz hd1' hex ?_
    rintro _ ⟨rows,fn,hR,rfl⟩ -
    refine zG ⟨?_⟩
    refine zQ ⟨?_⟩
    refine aU ?_
    refine bJ aA aA (fun _ _ r=>∃rows fn,DomR (T.getD i default).1 (T.getD i default).2 z.toNat rows fn/\r=.tup [.agg [.int .i64 z,.sl rows.length (iT (rI rows)),.sl fn.length (HL.bools fn)],.int .i64 0]) ?_
    refine fP @hz ⟨?_⟩
    refine fG aG bz hd2' hex ?_
    rintro _ ⟨rows',fn',hR',rfl⟩ -
    have hkk:=hkd _ _ hR
    obtain ⟨rfl,rfl⟩:=hR.unique hR'
    have hsm:=TF _ hkk
    simp only [dC,jf] at hsm
    refine zG ⟨?_⟩
    refine zF ⟨?_⟩
    refine aX aG (zW @fE) (hsm) ?_
    rintro _ rfl
    refine zG ⟨?_⟩
    refine zF ⟨?_⟩
    exact aV [1,10,11,12,13,14,15] (k+1) hkl (by omega) rfl
   ·have hd1':=hd1.imp fun r h=>Oe hok h
    have hd2':=hd2.imp fun r h=>Oe hok h
    generalize Z.getD k 0=z at hz hd1' hd2'
    refine zF ⟨?_⟩
    refine bJ aA aA (fun _ _ r=>r=.tup [.agg [.int .i64 0,.nils,.nils],.int .i64 1]) ?_
    refine fP @hz ⟨?_⟩
    refine fG aG bz hd1' ⟨_,rfl,rfl⟩ ?_
    rintro _ rfl -
    refine zG ⟨?_⟩
    refine zQ ⟨?_⟩
    refine aU ?_
    refine bJ aA aA (fun _ _ r=>r=.tup [.agg [.int .i64 0,.nils,.nils],.int .i64 1]) ?_
    refine fP @hz ⟨?_⟩
    refine fG aG bz hd2' ⟨_,rfl,rfl⟩ ?_
    rintro _ rfl -
    refine zG ⟨?_⟩
    refine zF ⟨?_⟩
    refine aX aG bz (VF) ?_
    rintro _ rfl
    refine zG ⟨?_⟩
    refine zF ⟨?_⟩
    exact aV [1,10,11,12,13,14,15] (k+1) hkl (by omega) rfl
  ·obtain rfl:k=3:=by omega
   refine zF ⟨?_⟩
   exact aV [1,10,11,12,13,14] (i+1) hil (by omega) rfl
 ·obtain rfl:i=2:=by omega
  have hd3:=IG fin al 3 (by omega) (by omega) (fun _=>by omega) (by omega)
  have hok3:okF fin al=true/\1<=(3:Int)/\(3:Int)<=64:=⟨hv,by omega,by omega⟩
  have hd3':=hd3.imp fun r h=>JQ hok3 h
  simp only [dR,fU] at hd3'
  have hlv:=Px
  refine zF ⟨?_⟩
  refine aX aG bz (hd3') ?_
  rintro _ ⟨rows,fn,hR,rfl⟩
  refine zG ⟨?_⟩
  refine zF ⟨?_⟩
  have hkd:=DomR.okD (by omega) ⟨by omega,by omega⟩ hR
  refine aF [1,10,11,20,22] (fun n:Nat=>n<=6) (fun n=>⟨[(1,.sl w.length (HL.ints w)),(10,.bool false),(11,.ptr [.sl fin.length (HL.bools fin),.sl al.length (recs aC al)] 0),(20,.pref 0 [] 0),(22,.int .i64 n)],[(0,.optr [.int .i64 3,.sl rows.length (iT (rI rows)),.sl fn.length (HL.bools fn)])],1⟩) (fun n=>6 - n) 0 (by omega) rfl ?_
  intro n hn
  by_cases hnl:n<=5
  ·refine zF ⟨?_⟩
   refine aX aG aaG (Ux w n hw (by omega) hwr) ?_
   rintro _ ⟨u,rfl,hu,hur⟩
   refine zG ⟨?_⟩
   refine zQ ⟨?_⟩
   refine aP 65 [1,10,11,20,22,23] ⟨[(1,.sl w.length (HL.ints w)),(10,.bool false),(11,.ptr [.sl fin.length (HL.bools fin),.sl al.length (recs aC al)] 0),(20,.pref 0 [] 0),(22,.int .i64 n),(23,.sl u.length (stripL (win (HL.ints u) 0 (u.length*1))))],[(0,.optr [.int .i64 3,.sl rows.length (iT (rI rows)),.sl fn.length (HL.bools fn)])],1⟩ rfl ?_
   rw [show stripL (win (HL.ints u) 0 (u.length*1))=HL.ints u by rw [Nat.mul_one,dw _ (by simp [HL.ints]),HL.ints_strip]]
   have hap:=Ur fin al u 8 (by omega) (by omega) (by omega)
   have hac:=Qw ⟨3,rI rows,fn⟩ hkd u (by omega) hur
   obtain ⟨hq,hda⟩:=Zy hv hR hur (by omega)
   rw [hda] at hac
   have hsl:=Yk fin al u 8
   unfold apT at hap
   simp only [dR,fU,dC,jf,I] at hap hac
   generalize Eu fin al u 8=q at hq hap hac hsl
   obtain ⟨ws,e⟩:=q
   simp only at hq hap hac hsl
   refine zF ⟨?_⟩
   refine aX aG bz (hap) ?_
   rintro _ rfl
   refine zG ⟨?_⟩
   rcases hq with rfl|rfl
   ·rw [show decide ((0:Int)=4)=false from rfl,vY] at hac
    by_cases hw0:0<ws.length
    ·rw [decide_eq_true hw0] at hac
     refine zF ⟨?_⟩
     refine aX aG (zW @fE) (hac) ?_
     rintro _ rfl
     refine zG ⟨?_⟩
     refine zF ⟨?_⟩
     exact aV [1,10,11,20,22] (n+1) (by omega) (by omega) rfl
    ·rw [decide_eq_false hw0] at hac
     refine zF ⟨?_⟩
     refine aX aG (zW @fE) (hac) ?_
     rintro _ rfl
     refine zG ⟨?_⟩
     refine zF ⟨?_⟩
     exact aV [1,10,11,20,22] (n+1) (by omega) (by omega) rfl
   ·rw [show decide ((4:Int)=4)=true from rfl,Bool.true_or] at hac
    refine zF ⟨?_⟩
    refine aX aG (zW @fE) (hac) ?_
    rintro _ rfl
    refine zG ⟨?_⟩
    refine zF ⟨?_⟩
    exact aV [1,10,11,20,22] (n+1) (by omega) (by omega) rfl
  ·refine zF ⟨?_⟩
   refine aX aG bz (hlv) ?_
   rintro _ rfl
   refine zG ⟨?_⟩
   refine zF ⟨?_⟩
   refine ae ?_
   rfl
end Go.Proofs.Ytlbdmpjnmfmnfaa
end
section
namespace Go.Proofs.Ytlbdmpjnmfmnfaa
open Go.RowKit Go.HL
def Fv (l:List Int):List Value:=l.map fun n=>.int .i64 n
theorem Nh {F:Nat->Prop} {h:Hp} {R:HV->Value->Prop} (l:List Int):OW F h R (HL.ints l) (Fv l) []:=by
 induction l with
 | nil=>exact .nil
 | cons x r ih=>exact .int ih
theorem RH {w:World} {a:Option Addr} {len cap:Nat} {zs:List Int} (h:(a=none/\len=0/\cap=0/\zs=[]) \/
  ∃x,a=some x/\len<=cap/\cap<=maxLen/\zs.length=cap/\(∀i,i<zs.length->w.cell? (x.add i)=some (.int .i64 (zs.getD i 0)))/\∀n∈zs,(Lit.int .i64 n).wf=true) :
  OW (fun b=>b<w.heap.size) w.heap dG [I (zs.take len)] [.slice a len cap] []/\(zs.take len).length=len/\len<=9223372036854775807:=by
 have hl:(zs.take len).length=len:=by
  rcases h with ⟨_,rfl,_,rfl⟩|⟨x,_,h1,_,h3,_⟩
  ·rfl
  ·simp;omega
 have hm:len<=9223372036854775807:=by
  rcases h with ⟨_,rfl,_,rfl⟩|⟨x,_,h1,h2,_⟩
  ·omega
  ·unfold maxLen at h2;omega
 refine ⟨?_,hl,hm⟩
 unfold I
 rw [hl]
 rcases Nat.eq_zero_or_pos len with rfl|hp
 ·exact .sl0 .nil
 ·rcases h with ⟨_,h0,_⟩|⟨x,rfl,h1,h2,h3,h4,-⟩
  ·omega
  ·have h0:=h4 0 (by omega)
   obtain ⟨g,off,spot⟩:=x
   obtain ⟨cur,e,fr,hg,hs⟩:∃cur e fr,w.heap[g]?=some (.cells cur e fr)/\spot=none:=by
    simp only [Addr.add,if_true,World.cell?] at h0
    split at h0
    ·rename_i cur e fr hg
     split at h0
     ·cases h0
     ·rename_i hn;exact ⟨_,_,_,hg,by simpa using hn⟩
    ·cases h0
   subst hs
   have hcell:∀k,k<len->cur[off+k]?=some (.int .i64 (zs.getD k 0)):=by
    intro k hk
    have h5:=h4 k (by omega)
    have e1:(⟨g,off,none⟩:Addr).add k=⟨g,off+k,none⟩:=by
     unfold Addr.add;split
     ·rename_i h;subst h;rfl
     ·rfl
    rw [e1] at h5
    simpa only [World.cell?,hg,Option.isSome_none,Bool.false_eq_true,if_false] using h5
   have hrv:Fv (zs.take len)=(cur.toList.drop off).take (HL.ints (zs.take len)).length:=by
    rw [HL.ints_len,hl]
    apply rF
    intro k
    by_cases hk:k<len
    ·rw [wz,if_pos hk,EI]
     have:=hcell k hk
     rw [show cur.toList[off+k]?=cur[off+k]? from by simp,this]
     rw [Fv,fZ,wz,if_pos hk,bn (by omega)]
     simp [bf,bn (show k<zs.length by omega)]
    ·rw [qo (by simp [Fv];omega),qo (by simp;omega)]
   exact .sl (F:=fun b=>b<w.heap.size) (zl030.1 hg).1 hg hrv h1 (Nh _) .nil
theorem said_of {P:Program} {f:FuncId} {args:List HV} {rargs:List Value} {w:World} (h:HT P f args (fun r=>r=.bool true)) (ho:OW (fun b=>b<w.heap.size) w.heap dG args rargs []) :
  Calls P f rargs.toArray w fun e w'=>e=.returned (.bool true)/\Below w.heap.size w w':=by
 refine (h.2 w rargs _ (fun b hb=>hb) ho).mono ?_
 rintro e w' ⟨rv,res,fs,rfl,rfl,h1,_,_,hb⟩
 rw [of_bool h1]
 exact ⟨rfl,hb⟩
theorem NY {F:Nat->Prop} {h:Hp} {v:HV} {r:List HV} {rv:Value} {rr:List Value} (h1:OW F h dG [v] [rv] []) (h2:OW F h dG r rr []):OW F h dG (v::r) (rv::rr) []:=h1.cons1 h2
theorem KZ {F:Nat->Prop} {h:Hp} {r:List HV} {rr:List Value} {k:IntKind} {n:Int} (h2:OW F h dG r rr []):OW F h dG (.int k n::r) (.int k n::rr) []:=.int h2
theorem FP {n:Int} (h:(Lit.int .i64 n).wf=true) : -9223372036854775808<=n/\n<=9223372036854775807:=by
 simp only [Lit.wf,aZ,decide_eq_true_eq] at h
 have e1:IntKind.i64.min = -9223372036854775808:=rfl
 have e2:IntKind.i64.max=9223372036854775807:=rfl
 rw [e1,e2] at h
 exact h
theorem QI {w:World} {a:Option Addr} {len cap:Nat} {zs:List Int} (h:(a=none/\len=0/\cap=0/\zs=[]) \/
  ∃x,a=some x/\len<=cap/\cap<=maxLen/\zs.length=cap/\(∀i,i<zs.length->w.cell? (x.add i)=some (.int .i64 (zs.getD i 0)))/\∀n∈zs,(Lit.int .i64 n).wf=true) :
  ∀k,k<(zs.take len).length -> -9223372036854775808<=(zs.take len).getD k 0/\(zs.take len).getD k 0<=9223372036854775807:=by
 intro k hk
 have hm:(zs.take len).getD k 0∈zs:=by
  rw [bf,bn hk,fV]
  exact FW (iD hk)
 rcases h with ⟨_,_,_,rfl⟩|⟨x,_,_,_,_,_,h⟩
 ·cases hm
 ·exact FP (h _ hm)
end Go.Proofs.Ytlbdmpjnmfmnfaa
end
