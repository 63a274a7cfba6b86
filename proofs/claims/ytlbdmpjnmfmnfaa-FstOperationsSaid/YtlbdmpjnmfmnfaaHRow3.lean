import Derived.Test.YtlbdmpjnmfmnfaaFwK
import Derived.Test.YtlbdmpjnmfmnfaaFsB
import Derived.Test.YtlbdmpjnmfmnfaaFsA
set_option linter.unusedSimpArgs false
set_option linter.unusedVariables false
set_option linter.unnecessarySimpa false
set_option maxHeartbeats 16000000
section
namespace Go.Proofs.Ytlbdmpjnmfmnfaa
open Go.RowKit Go.HL Go.FS
theorem ac7 (a:Int) (h : -9223372036854775808<=a/\a<=9223372036854775807) : -9223372036854775808<=Int.tdiv a 9/\Int.tdiv a 9<=9223372036854775807:=by
 by_cases h0:0<=a
 ·rw [GZ h0];omega
 ·obtain ⟨b,rfl⟩:∃b,a = -b:=⟨-a,by omega⟩
  rw [Int.neg_tdiv,GZ (by omega)];omega
def UN (f:FuncId) (args:List HV) (r:HV):Prop:=if f=36 then r=.bool true else ∃d:Dz,args=[.agg (dC d)]/\r=.agg (fC (GN d))
theorem P8 (n:Int) (m:Nat) (hm:0<m) (hm2:m<=1099511627776) (h1 : -9223372036854775808<=n) (h2:n<=9223372036854775807):∃y:Nat,y<m/\HT Try.prog 16 [.int .i64 n,.int .i64 m] (fun r=>r=.int .i64 y):=by
 by_cases h0:n<0
 ·obtain ⟨x,hx⟩:∃x:Nat,0 - (n+1)=x:=⟨(-(n+1)).toNat,by omega⟩
  have ht:(x:Int).tmod m=((x % m:Nat):Int):=(Int.ofNat_tmod x m).symm
  have hlt:=Nat.mod_lt x hm
  refine ⟨x % m,hlt,HT.of rfl ab5 (aZ rfl) ?_⟩
  unfold c16
  simp only [aA,Nat.reduceAdd]
  repeat (first|refine EY aQ rfl ?_|refine yK iJ ?_|refine au ?_|refine aH ?_|refine Ce (by rfl) (by rfl) QC ?_|refine jh (by rfl) ?_|refine C9 (by rfl) (by rfl) (by (try simp (disch:=omega) only [go_sem,Int.reduceAdd,Int.reduceSub,Int.reduceMul,hx,ht]);try rfl) ?_|refine Hq (by rfl) (by rfl) (by omega) (by (try simp (disch:=omega) only [go_sem,Int.reduceAdd,Int.reduceSub,Int.reduceMul,hx,ht]);try rfl) ?_|refine Hu (by rfl) (by (try simp (disch:=omega) only [go_sem,Int.reduceAdd,Int.reduceSub,Int.reduceMul,hx,ht]);try rfl) ?_)
  refine ae ?_
  rfl
 ·obtain ⟨x,rfl⟩:∃x:Nat,n=x:=⟨n.toNat,by omega⟩
  have ht:(x:Int).tmod m=((x % m:Nat):Int):=(Int.ofNat_tmod x m).symm
  have hlt:=Nat.mod_lt x hm
  refine ⟨x % m,hlt,HT.of rfl ab5 (aZ rfl) ?_⟩
  unfold c16
  simp only [aA,Nat.reduceAdd]
  refine eH @ht ⟨?_⟩
  refine ae ?_
  rfl
theorem Dn (l:List Int) {n:Nat} (h:n=l.length):stripL (win (HL.ints l) 0 (n*1))=HL.ints l:=by subst h;exact PN l
theorem We (l:List Bool):stripL (win (HL.bools l) 0 (l.length*1))=HL.bools l:=by rw [eG _ (by rw [HL.bools_len];omega),HL.bools_strip]
theorem Kr {d:Dz} {r:HV} (h:UN 43 [.agg (dC d)] r):r=.agg (fC (GN d)):=by
 obtain ⟨e,h1,h2⟩:=(show ∃e:Dz,[HV.agg (dC d)]=[.agg (dC e)]/\r=.agg (fC (GN e)) from h)
 simp only [uA,HV.agg.injEq,and_true] at h1
 rw [h2,abq h1]
theorem TW {d:Dz} {r:HV} (h:UN 44 [.agg (dC d)] r):r=.agg (fC (GN d)):=Kr h
theorem BN {d:Dz} {r:HV} (h:r=.agg (fC (GN d))):UN 43 [.agg (dC d)] r:=show ∃e:Dz,[HV.agg (dC d)]=[.agg (dC e)]/\r=.agg (fC (GN e)) from ⟨d,rfl,h⟩
theorem Fv {d:Dz} {r:HV} (h:r=.agg (fC (GN d))):UN 44 [.agg (dC d)] r:=BN h
theorem Y8 (m k w:List Int) (at_ how:Int) (hml:m.length<=9223372036854775807) (hmr:∀i,i<m.length -> -9223372036854775808<=m.getD i 0/\m.getD i 0<=9223372036854775807) (hkl:k.length<=9223372036854775807) (hkr:∀i,i<k.length -> -9223372036854775808<=k.getD i 0/\k.getD i 0<=9223372036854775807) (hwl:w.length<=9223372036854775807) (hwr:∀i,i<w.length -> -9223372036854775808<=w.getD i 0/\w.getD i 0<=9223372036854775807) (ha : -9223372036854775808<=at_/\at_<=9223372036854775807) (hh : -9223372036854775808<=how/\how<=9223372036854775807) :
  hx Try.prog [.c aa7] (finish [12] (fun r=>r=.bool true)) ⟨[(1,.sl m.length (HL.ints m)),(2,.sl k.length (HL.ints k)),(3,.sl w.length (HL.ints w)),(4,.int .i64 at_),(5,.int .i64 how),(12,.bool false)],[],0⟩:=by
 have hq:=ac7 how hh
 have hw9:IntKind.i64.wrap (Int.tdiv how 9)=Int.tdiv how 9:=IntWalk.i64_in _ hq
 refine aH ?_
 refine au ?_
 refine zQ ⟨?_⟩
 refine aF ay vO (acd k hkl hkr) ?_
 rintro _ ⟨d,rfl,d1,d2,d3,size,d4,d5,d6⟩
 simp only [dC]
 refine zG ⟨?_⟩
 refine zQ ⟨?_⟩
 refine az 32 [1,3,4,5,12,23] ⟨[(1,.sl m.length (HL.ints m)),(3,.sl w.length (HL.ints w)),(4,.int .i64 at_),(5,.int .i64 how),(12,.bool false),(23,.ptr (stripL [.int .i64 d.sz,.sl d.nx.length (iT d.nx),.sl d.fn.length (HL.bools d.fn)]) 0)],[],0⟩ rfl ?_
 rw [xZ]
 have sp:=PY d at_ how (Int.tdiv how 9) size d1 d2 d3 d4 (by omega) d6 ha hh hq
 simp only [dC] at sp
 refine aH ?_
 refine au ?_
 refine Na @hw9 ⟨?_⟩
 refine aF ay aK (sp) ?_
 rintro _ ⟨e,rfl,e1,e2,e3⟩
 refine zG ⟨?_⟩
 refine zQ ⟨?_⟩
 refine az 96 [1,3,4,5,12,23,24] ⟨[(1,.sl m.length (HL.ints m)),(3,.sl w.length (HL.ints w)),(4,.int .i64 at_),(5,.int .i64 how),(12,.bool false),(23,.ptr [.int .i64 d.sz,.sl d.nx.length (iT d.nx),.sl d.fn.length (HL.bools d.fn)] 0),(24,.ptr (stripL [.int .i64 e.sz,.sl e.nx.length (iT e.nx),.sl e.fn.length (HL.bools e.fn)]) 0)],[],0⟩ rfl ?_
 rw [xZ]
 have f1:=(abe d (by omega) (by omega) (fun r hr=>by have:=d6 r hr;omega)).mono fun r h=>BN h
 have f2:=(Xz d (by omega) (by omega) (fun r hr=>by have:=d6 r hr;omega)).mono fun r h=>Fv h
 have f3:=(abe e e1 e2 e3).mono fun r h=>BN h
 have f4:=(Xz e e1 e2 e3).mono fun r h=>Fv h
 have n1:=aaX d (by omega)
 have n2:=aaX e e1
 have g1:=fun r (h:UN 43 [.agg (dC d)] r)=>Kr h
 have g2:=fun r (h:UN 44 [.agg (dC d)] r)=>TW h
 have g3:=fun r (h:UN 43 [.agg (dC e)] r)=>Kr h
 have g4:=fun r (h:UN 44 [.agg (dC e)] r)=>TW h
 have i1:∃v,UN 43 [.agg (dC d)] v/\v.deep=[]:=⟨_,BN rfl,CG _⟩
 have i2:∃v,UN 44 [.agg (dC d)] v/\v.deep=[]:=⟨_,Fv rfl,CG _⟩
 have i3:∃v,UN 43 [.agg (dC e)] v/\v.deep=[]:=⟨_,BN rfl,CG _⟩
 have i4:∃v,UN 44 [.agg (dC e)] v/\v.deep=[]:=⟨_,Fv rfl,CG _⟩
 generalize GN d=x at n1 g1 g2
 generalize GN e=y at n2 g3 g4
 have q1:=pF x w n1.1 n1.2 hwl hwr
 have q2:=pF y w n2.1 n2.2 hwl hwr
 simp only [dC,fC,I] at f1 f2 f3 f4 g1 g2 g3 g4 i1 i2 i3 i4 q1 q2
 refine aH ?_
 refine au ?_
 refine zQ ⟨?_⟩
 refine aF ay vO (BF w 3 hwl (by omega) hwr) ?_
 rintro _ ⟨u,rfl,hu⟩
 refine zG ⟨?_⟩
 refine zQ ⟨?_⟩
 refine aY [1,3,4,12,23,24,25] ⟨[(1,.sl m.length (HL.ints m)),(3,.sl w.length (HL.ints w)),(4,.int .i64 at_),(12,.bool false),(23,.ptr [.int .i64 d.sz,.sl d.nx.length (iT d.nx),.sl d.fn.length (HL.bools d.fn)] 0),(24,.ptr [.int .i64 e.sz,.sl e.nx.length (iT e.nx),.sl e.fn.length (HL.bools e.fn)] 0),(25,.ref 0 [] 1 0 u.length)],[(0,.osl 1 u.length (HL.ints u))],1⟩ rfl ?_
 refine aH ?_
 refine au ?_
 refine zQ ⟨?_⟩
 refine aF ay vO (BF m 2 hml (by omega) hmr) ?_
 rintro _ ⟨v,rfl,hv⟩
 refine zG ⟨?_⟩
 refine zQ ⟨?_⟩
 refine az 17 [3,4,12,23,24,25,26] ⟨[(3,.sl w.length (HL.ints w)),(4,.int .i64 at_),(12,.bool false),(23,.ptr [.int .i64 d.sz,.sl d.nx.length (iT d.nx),.sl d.fn.length (HL.bools d.fn)] 0),(24,.ptr [.int .i64 e.sz,.sl e.nx.length (iT e.nx),.sl e.fn.length (HL.bools e.fn)] 0),(25,.ref 0 [] 1 0 u.length),(26,.sl v.length (stripL (win (HL.ints v) 0 (v.length*1))))],[(0,.osl 1 u.length (HL.ints u))],1⟩ rfl ?_
 rw [PN]
 refine aH ?_
 refine bG ah ah UN ?_
 refine zF ⟨?_⟩
 refine bI ay aK f1 i1 ?_
 intro r hr hdd
 clear hdd
 obtain rfl:=g1 _ hr
 clear hr
 refine zG ⟨?_⟩
 refine zF ⟨?_⟩
 refine bI ay aK f2 i2 ?_
 intro r hr hdd
 clear hdd
 obtain rfl:=g2 _ hr
 clear hr
 refine zG ⟨?_⟩
 refine zF ⟨?_⟩
 refine bI ay aK q1 ⟨_,rfl,rfl⟩ ?_
 intro r hr hdd
 clear hdd
 obtain rfl:=(show r=.bool true from hr)
 clear hr
 refine zG ⟨?_⟩
 refine zF ⟨?_⟩
 refine bI ay aK f3 i3 ?_
 intro r hr hdd
 clear hdd
 obtain rfl:=g3 _ hr
 clear hr
 refine zG ⟨?_⟩
 refine zF ⟨?_⟩
 refine bI ay aK f4 i4 ?_
 intro r hr hdd
 clear hdd
 obtain rfl:=g4 _ hr
 clear hr
 refine zG ⟨?_⟩
 refine zF ⟨?_⟩
 refine bI ay aK q2 ⟨_,rfl,rfl⟩ ?_
 intro r hr hdd
 clear hdd
 obtain rfl:=(show r=.bool true from hr)
 clear hr
 refine zG ⟨?_⟩
 refine zQ ⟨?_⟩
 refine aY [3,4,12,25,26,27] ⟨[(3,.sl w.length (HL.ints w)),(4,.int .i64 at_),(12,.bool false),(25,.ref 0 [] 1 0 u.length),(26,.sl v.length (HL.ints v)),(27,.bool true)],[(0,.osl 1 u.length (HL.ints u))],1⟩ rfl ?_
 have m1:=FZ u v (by omega) (by omega)
 have m2:=Pv u v (by omega) (by omega)
 have n3:=abk u v (by omega) (by omega)
 generalize FC u v=z at m1 m2 n3
 have q3:=pF z w n3.1 n3.2 hwl hwr
 simp only [dE,EQ,fB,fC,I] at m1 m2 q3
 obtain ⟨p,hp,ar⟩:=P8 at_ 66 (by omega) (by omega) ha.1 ha.2
 obtain ⟨c,hc⟩:∃c:Int,(p:Int) - 1=c:=⟨_,rfl⟩
 have hul:(u++[c]).length=u.length+1:=by simp
 have hui:HL.ints u++[HV.int .i64 c]=HL.ints (u++[c]):=by simp [HL.ints]
 have hwi:win (HL.ints (u++[c])) 0 u.length=HL.ints u:=by rw [wI0];simp
 have m3:=FZ v (u++[c]) (by omega) (by omega)
 have m4:=Pv v (u++[c]) (by omega) (by omega)
 have n5:=abk v (u++[c]) (by omega) (by omega)
 generalize FC v (u++[c])=y at m3 m4 n5
 have q4:=pF y w n5.1 n5.2 hwl hwr
 rw [hul] at m3 m4
 simp only [dE,EQ,fB,fC,I] at m3 m4 q4
 refine aH ?_
 refine au ?_
 refine zQ ⟨?_⟩
 refine aF ay vO (m1) ?_
 rintro _ rfl
 refine ⟨(by simp only [aJ,jb,HV.refFree,dm,HV.noRd,HL.ints_noRd,HL.bools_noRd,dR,mZ,lX,l9,kE,Bool.and_true,jf,Bool.and_self,mQ,beq_self_eq_true,List.cons_append,List.nil_append]),_,_,_,_,_,zT,(by decide),lH,?_⟩
 refine zF ⟨?_⟩
 refine aF ay vO (m2) ?_
 rintro _ rfl
 refine ⟨(by simp only [aJ,jb,HV.refFree,dm,HV.noRd,HL.ints_noRd,HL.bools_noRd,dR,mZ,lX,l9,kE,Bool.and_true,jf,Bool.and_self,mQ,beq_self_eq_true,List.cons_append,List.nil_append]),_,_,_,_,_,zT,(by decide),lH,?_⟩
 refine zF ⟨?_⟩
 refine aF ay (by simp (disch:=omega) only [dM,I,SN,HV.thaw,cZ,ax,aB,if_true,if_false,reduceIte,Nat.reduceEqDiff,stripL,HV.strip,qA,sS,Nat.mul_one,List.cons_append,List.nil_append,List.append_nil,I,Bl,T3,List.getD_cons_zero,List.getD_cons_succ,HL.ints_strip,HL.bools_strip,wZ];try rfl) (q3) ?_
 rintro _ rfl
 refine zG ⟨?_⟩
 refine zF ⟨?_⟩
 refine aF ay aK (ar) ?_
 rintro _ rfl
 refine zG ⟨?_⟩
 refine zK ⟨?_⟩
 refine BL (by rfl) (by rfl) (by (try simp (disch:=omega) only [go_sem,Int.reduceAdd,Int.reduceSub,Int.reduceMul,hc]);try rfl) ?_
 refine zK ⟨?_⟩
 refine Cj iJ ay aU iZ (by rfl) (by rfl) ?_
 refine zK ⟨?_⟩
 refine acO iJ (by rfl) (by rfl) iZ aQ (by (try simp (disch:=omega) only [ax,go_sem,reduceIte,Nat.reduceEqDiff,Nat.reduceAdd,Nat.reduceMul,hui,hul]);try rfl) (by (try simp (disch:=omega) only [go_sem,reduceIte,Nat.reduceEqDiff,Nat.reduceAdd,Nat.reduceMul,hui,hul]);try omega) iZ (by omega) (by omega) oD (by rfl) (by (try simp (disch:=omega) only [go_sem,reduceIte,Nat.reduceEqDiff,Nat.reduceAdd,Nat.reduceMul,hui,hul]);try rfl) ?_ ?_
 ·refine zF ⟨?_⟩
  refine aF ay (by refine Eq.trans (b:=[.sl v.length (HL.ints v),.sl (u.length+1) (stripL (win (HL.ints (u++[c])) 0 ((u.length+1)*1)))]) rfl ?_;rw [Dn _ hul.symm]) (m3) ?_
  rintro _ rfl
  refine ⟨(by simp only [aJ,jb,HV.refFree,dm,HV.noRd,HL.ints_noRd,HL.bools_noRd,dR,mZ,lX,l9,kE,Bool.and_true,jf,Bool.and_self,mQ,beq_self_eq_true,List.cons_append,List.nil_append]),_,_,_,_,_,zT,(by decide),lH,?_⟩
  refine zF ⟨?_⟩
  refine aF ay aK (ar) ?_
  rintro _ rfl
  refine zG ⟨?_⟩
  refine zK ⟨?_⟩
  refine BL (by rfl) (by rfl) (by (try simp (disch:=omega) only [go_sem,Int.reduceAdd,Int.reduceSub,Int.reduceMul,hc]);try rfl) ?_
  refine zK ⟨?_⟩
  refine Cj iJ ay aU iZ (by rfl) (by rfl) ?_
  refine zK ⟨?_⟩
  refine yg iJ (by rfl) aQ Hw (by (try simp (disch:=omega) only [go_sem,reduceIte,Nat.reduceEqDiff,Nat.reduceAdd,Nat.reduceMul,hwi,hui,hul]);try omega) gW (by (try simp (disch:=omega) only [go_sem,reduceIte,Nat.reduceEqDiff,Nat.reduceAdd,Nat.reduceMul,hwi,hui,hul]);try rfl) iJ (by omega) oD bU (by (try simp (disch:=omega) only [go_sem,reduceIte,Nat.reduceEqDiff,Nat.reduceAdd,Nat.reduceMul,hwi,hui,hul]);try rfl) aU ?_
  refine zF ⟨?_⟩
  refine aF ay (by refine Eq.trans (b:=[.sl v.length (HL.ints v),.sl (u.length+1) (stripL (win (HL.ints (u++[c])) 0 ((u.length+1)*1)))]) rfl ?_;rw [Dn _ hul.symm]) (m4) ?_
  rintro _ rfl
  refine ⟨(by simp only [aJ,jb,HV.refFree,dm,HV.noRd,HL.ints_noRd,HL.bools_noRd,dR,mZ,lX,l9,kE,Bool.and_true,jf,Bool.and_self,mQ,beq_self_eq_true,List.cons_append,List.nil_append]),_,_,_,_,_,zT,(by decide),lH,?_⟩
  refine zF ⟨?_⟩
  refine aF ay (by refine Eq.trans (b:=[.agg [.sl y.1.length (stripL (win (HL.bools y.1) 0 (y.1.length*1))),.sl y.2.length (stripL (win (recs aC y.2) 0 (y.2.length*4)))],.agg [.sl y.1.length (stripL (win (HL.bools y.1) 0 (y.1.length*1))),.sl y.2.length (stripL (win (recs aC y.2) 0 (y.2.length*4)))],.sl w.length (HL.ints w)]) rfl ?_;rw [We,SN]) (q4) ?_
  rintro _ rfl
  refine zG ⟨?_⟩
  refine zF ⟨?_⟩
  refine aF ay aK (Gj) ?_
  rintro _ rfl
  refine zG ⟨?_⟩
  refine zF ⟨?_⟩
  refine ae ?_
  rfl
 ·refine zF ⟨?_⟩
  refine aF ay (by refine Eq.trans (b:=[.sl v.length (HL.ints v),.sl (u.length+1) (stripL (win (HL.ints (u++[c])) 0 ((u.length+1)*1)))]) rfl ?_;rw [Dn _ hul.symm]) (m3) ?_
  rintro _ rfl
  refine ⟨(by simp only [aJ,jb,HV.refFree,dm,HV.noRd,HL.ints_noRd,HL.bools_noRd,dR,mZ,lX,l9,kE,Bool.and_true,jf,Bool.and_self,mQ,beq_self_eq_true,List.cons_append,List.nil_append]),_,_,_,_,_,zT,(by decide),lH,?_⟩
  refine zF ⟨?_⟩
  refine aF ay aK (ar) ?_
  rintro _ rfl
  refine zG ⟨?_⟩
  refine zK ⟨?_⟩
  refine BL (by rfl) (by rfl) (by (try simp (disch:=omega) only [go_sem,Int.reduceAdd,Int.reduceSub,Int.reduceMul,hc]);try rfl) ?_
  refine zK ⟨?_⟩
  refine Cj iJ ay aU iZ (by rfl) (by rfl) ?_
  refine zK ⟨?_⟩
  refine yg iJ (by rfl) aQ Hw (by (try simp (disch:=omega) only [go_sem,reduceIte,Nat.reduceEqDiff,Nat.reduceAdd,Nat.reduceMul,hwi,hui,hul]);try omega) gW (by (try simp (disch:=omega) only [go_sem,reduceIte,Nat.reduceEqDiff,Nat.reduceAdd,Nat.reduceMul,hwi,hui,hul]);try rfl) iJ (by omega) oD bU (by (try simp (disch:=omega) only [go_sem,reduceIte,Nat.reduceEqDiff,Nat.reduceAdd,Nat.reduceMul,hwi,hui,hul]);try rfl) aU ?_
  refine zF ⟨?_⟩
  refine aF ay (by refine Eq.trans (b:=[.sl v.length (HL.ints v),.sl (u.length+1) (stripL (win (HL.ints (u++[c])) 0 ((u.length+1)*1)))]) rfl ?_;rw [Dn _ hul.symm]) (m4) ?_
  rintro _ rfl
  refine ⟨(by simp only [aJ,jb,HV.refFree,dm,HV.noRd,HL.ints_noRd,HL.bools_noRd,dR,mZ,lX,l9,kE,Bool.and_true,jf,Bool.and_self,mQ,beq_self_eq_true,List.cons_append,List.nil_append]),_,_,_,_,_,zT,(by decide),lH,?_⟩
  refine zF ⟨?_⟩
  refine aF ay (by refine Eq.trans (b:=[.agg [.sl y.1.length (stripL (win (HL.bools y.1) 0 (y.1.length*1))),.sl y.2.length (stripL (win (recs aC y.2) 0 (y.2.length*4)))],.agg [.sl y.1.length (stripL (win (HL.bools y.1) 0 (y.1.length*1))),.sl y.2.length (stripL (win (recs aC y.2) 0 (y.2.length*4)))],.sl w.length (HL.ints w)]) rfl ?_;rw [We,SN]) (q4) ?_
  rintro _ rfl
  refine zG ⟨?_⟩
  refine zF ⟨?_⟩
  refine aF ay aK (Gj) ?_
  rintro _ rfl
  refine zG ⟨?_⟩
  refine zF ⟨?_⟩
  refine ae ?_
  rfl
theorem Ef (l m k w:List Int) (at_ how:Int) (hll:l.length<=9223372036854775807) (hlr:∀i,i<l.length -> -9223372036854775808<=l.getD i 0/\l.getD i 0<=9223372036854775807) (hml:m.length<=9223372036854775807) (hmr:∀i,i<m.length -> -9223372036854775808<=m.getD i 0/\m.getD i 0<=9223372036854775807) (hkl:k.length<=9223372036854775807) (hkr:∀i,i<k.length -> -9223372036854775808<=k.getD i 0/\k.getD i 0<=9223372036854775807) (hwl:w.length<=9223372036854775807) (hwr:∀i,i<w.length -> -9223372036854775808<=w.getD i 0/\w.getD i 0<=9223372036854775807) (ha : -9223372036854775808<=at_/\at_<=9223372036854775807) (hh : -9223372036854775808<=how/\how<=9223372036854775807) :
  HT Try.prog 9 [I l,I m,I k,I w,.int .i64 at_,.int .i64 how] (fun r=>r=.bool true):=by
 refine HT.of rfl fc9 (aZ rfl) ?_
 unfold c9
 simp only [I,aA,Nat.reduceAdd]
 refine zF ⟨?_⟩
 refine aF ay vO (Sj l hll hlr) ?_
 rintro _ ⟨s,rfl,s1,s2,s3⟩
 simp only [fC]
 refine zG ⟨?_⟩
 refine zQ ⟨?_⟩
 refine az 48 [1,2,3,4,5,12,13] ⟨[(1,.sl m.length (HL.ints m)),(2,.sl k.length (HL.ints k)),(3,.sl w.length (HL.ints w)),(4,.int .i64 at_),(5,.int .i64 how),(12,.bool false),(13,.ptr (stripL [.sl s.1.length (HL.bools s.1),.sl s.2.length (recs aC s.2)]) 0)],[],0⟩ rfl ?_
 rw [gu]
 refine aH ?_
 refine au ?_
 refine zQ ⟨?_⟩
 refine aF ay vO (Sj m hml hmr) ?_
 rintro _ ⟨t,rfl,t1,t2,t3⟩
 simp only [fC]
 refine zG ⟨?_⟩
 refine zQ ⟨?_⟩
 refine az 32 [1,2,3,4,5,12,13,14] ⟨[(1,.sl m.length (HL.ints m)),(2,.sl k.length (HL.ints k)),(3,.sl w.length (HL.ints w)),(4,.int .i64 at_),(5,.int .i64 how),(12,.bool false),(13,.ptr [.sl s.1.length (HL.bools s.1),.sl s.2.length (recs aC s.2)] 0),(14,.ptr (stripL [.sl t.1.length (HL.bools t.1),.sl t.2.length (recs aC t.2)]) 0)],[],0⟩ rfl ?_
 rw [gu]
 refine YG m k w at_ how s t (by omega) (by omega) (by omega) (by omega) ha hh fun cs hcl hcs=>?_
 refine zF ⟨?_⟩
 refine aI [1,2,3,4,5,12,15,16] (fun i:Nat=>i<=4) (fun i=>⟨[(1,.sl m.length (HL.ints m)),(2,.sl k.length (HL.ints k)),(3,.sl w.length (HL.ints w)),(4,.int .i64 at_),(5,.int .i64 how),(12,.bool false),(15,.sl 4 cs),(16,.int .i64 i)],[],0⟩) (fun i=>4 - i) 0 (by omega) rfl ?_
 intro i hi
 by_cases hil:i<4
 ·obtain ⟨a,b,hab,a1,a2,b1,b2⟩:=hcs i hil
  obtain ⟨x,e,hce,x1,x2,hxe⟩:=Vo a.1 b.1 a.2 b.2
  have k1:=F6 a.1 b.1 a.2 b.2 (by omega) (by omega) (by omega) (by omega)
  have k2:=NZ a.1 b.1 a.2 b.2 (by omega) (by omega) (by omega) (by omega)
  rw [hce] at k1 k2
  have q:=pF x w x1 x2 hwl hwr
  simp only [dE,fB,EQ,fC,I] at k1 k2 q
  refine aH ?_
  refine aH ?_
  refine au ?_
  refine zQ ⟨?_⟩
  refine jh (by rfl) ?_
  refine jD ?_
  refine aH ?_
  refine jC ?_
  refine aH ?_
  refine au ?_
  refine Na @hab ⟨?_⟩
  refine az 160 [1,2,3,4,5,12,15,16,17] ⟨[(1,.sl m.length (HL.ints m)),(2,.sl k.length (HL.ints k)),(3,.sl w.length (HL.ints w)),(4,.int .i64 at_),(5,.int .i64 how),(12,.bool false),(15,.sl 4 cs),(16,.int .i64 i),(17,.ptr (stripL [.sl a.1.length (HL.bools a.1),.sl a.2.length (recs aC a.2)]) 0)],[],0⟩ rfl ?_
  rw [gu]
  refine aH ?_
  refine au ?_
  refine Na @hab ⟨?_⟩
  rw [show HV.agg (List.take 2 (List.drop (Int.toNat 1*2) [.sl a.1.length (HL.bools a.1),.sl a.2.length (recs aC a.2),.sl b.1.length (HL.bools b.1),.sl b.2.length (recs aC b.2)]))=.agg [.sl b.1.length (HL.bools b.1),.sl b.2.length (recs aC b.2)] from rfl]
  refine zQ ⟨?_⟩
  refine az 96 [1,2,3,4,5,12,15,16,17,18] ⟨[(1,.sl m.length (HL.ints m)),(2,.sl k.length (HL.ints k)),(3,.sl w.length (HL.ints w)),(4,.int .i64 at_),(5,.int .i64 how),(12,.bool false),(15,.sl 4 cs),(16,.int .i64 i),(17,.ptr [.sl a.1.length (HL.bools a.1),.sl a.2.length (recs aC a.2)] 0),(18,.ptr (stripL [.sl b.1.length (HL.bools b.1),.sl b.2.length (recs aC b.2)]) 0)],[],0⟩ rfl ?_
  rw [gu]
  refine aH ?_
  refine au ?_
  refine zQ ⟨?_⟩
  refine aF ay aK (k1) ?_
  rintro _ rfl
  refine zG ⟨?_⟩
  refine zQ ⟨?_⟩
  refine az 96 [1,2,3,4,5,12,15,16,17,18,19,20] ⟨[(1,.sl m.length (HL.ints m)),(2,.sl k.length (HL.ints k)),(3,.sl w.length (HL.ints w)),(4,.int .i64 at_),(5,.int .i64 how),(12,.bool false),(15,.sl 4 cs),(16,.int .i64 i),(17,.ptr [.sl a.1.length (HL.bools a.1),.sl a.2.length (recs aC a.2)] 0),(18,.ptr [.sl b.1.length (HL.bools b.1),.sl b.2.length (recs aC b.2)] 0),(19,.ptr (stripL [.osl 1 x.1.length (HL.bools x.1),.osl 4 x.2.length (recs aC x.2)]) 0),(20,.int .i64 e)],[],0⟩ rfl ?_
  rw [fD]
  refine aH ?_
  refine au ?_
  refine zQ ⟨?_⟩
  refine aF ay aK (k2) ?_
  rintro _ rfl
  refine zG ⟨?_⟩
  refine zQ ⟨?_⟩
  refine az 96 [1,2,3,4,5,12,15,16,17,18,19,20,21,22] ⟨[(1,.sl m.length (HL.ints m)),(2,.sl k.length (HL.ints k)),(3,.sl w.length (HL.ints w)),(4,.int .i64 at_),(5,.int .i64 how),(12,.bool false),(15,.sl 4 cs),(16,.int .i64 i),(17,.ptr [.sl a.1.length (HL.bools a.1),.sl a.2.length (recs aC a.2)] 0),(18,.ptr [.sl b.1.length (HL.bools b.1),.sl b.2.length (recs aC b.2)] 0),(19,.ptr [.sl x.1.length (HL.bools x.1),.sl x.2.length (recs aC x.2)] 0),(20,.int .i64 e),(21,.ptr (stripL [.sl x.1.length (HL.bools x.1),.sl x.2.length (recs aC x.2)]) 0),(22,.int .i64 e)],[],0⟩ rfl ?_
  rw [gu]
  rcases hxe with rfl|⟨rfl,rfl|rfl⟩
  ·refine aH ?_
   refine aH ?_
   refine au ?_
   refine zQ ⟨?_⟩
   refine aF ay aK (q) ?_
   rintro _ rfl
   refine zG ⟨?_⟩
   refine zQ ⟨?_⟩
   refine bu (by rfl) ?_
   refine jD ?_
   refine aY [1,2,3,4,5,12,15,16,17,18] ⟨[(1,.sl m.length (HL.ints m)),(2,.sl k.length (HL.ints k)),(3,.sl w.length (HL.ints w)),(4,.int .i64 at_),(5,.int .i64 how),(12,.bool false),(15,.sl 4 cs),(16,.int .i64 i),(17,.ptr [.sl a.1.length (HL.bools a.1),.sl a.2.length (recs aC a.2)] 0),(18,.ptr [.sl b.1.length (HL.bools b.1),.sl b.2.length (recs aC b.2)] 0)],[],0⟩ rfl ?_
   refine Qw m k w at_ how cs i a b a1 a2 b1 b2 hwl hwr ?_
   refine zF ⟨?_⟩
   exact aP [1,2,3,4,5,12,15,16] (i+1) hil (by omega) rfl
  ·refine aH ?_
   refine aH ?_
   refine au ?_
   refine zQ ⟨?_⟩
   refine bu (by rfl) ?_
   refine jD ?_
   refine aY [1,2,3,4,5,12,15,16,17,18] ⟨[(1,.sl m.length (HL.ints m)),(2,.sl k.length (HL.ints k)),(3,.sl w.length (HL.ints w)),(4,.int .i64 at_),(5,.int .i64 how),(12,.bool false),(15,.sl 4 cs),(16,.int .i64 i),(17,.ptr [.sl a.1.length (HL.bools a.1),.sl a.2.length (recs aC a.2)] 0),(18,.ptr [.sl b.1.length (HL.bools b.1),.sl b.2.length (recs aC b.2)] 0)],[],0⟩ rfl ?_
   refine Qw m k w at_ how cs i a b a1 a2 b1 b2 hwl hwr ?_
   refine zF ⟨?_⟩
   exact aP [1,2,3,4,5,12,15,16] (i+1) hil (by omega) rfl
  ·refine aH ?_
   refine aH ?_
   refine au ?_
   refine zQ ⟨?_⟩
   refine bu (by rfl) ?_
   refine jD ?_
   refine aY [1,2,3,4,5,12,15,16,17,18] ⟨[(1,.sl m.length (HL.ints m)),(2,.sl k.length (HL.ints k)),(3,.sl w.length (HL.ints w)),(4,.int .i64 at_),(5,.int .i64 how),(12,.bool false),(15,.sl 4 cs),(16,.int .i64 i),(17,.ptr [.sl a.1.length (HL.bools a.1),.sl a.2.length (recs aC a.2)] 0),(18,.ptr [.sl b.1.length (HL.bools b.1),.sl b.2.length (recs aC b.2)] 0)],[],0⟩ rfl ?_
   refine Qw m k w at_ how cs i a b a1 a2 b1 b2 hwl hwr ?_
   refine zF ⟨?_⟩
   exact aP [1,2,3,4,5,12,15,16] (i+1) hil (by omega) rfl
 ·obtain rfl:i=4:=by omega
  refine aH ?_
  refine aH ?_
  refine au ?_
  refine zQ ⟨?_⟩
  refine bu (by rfl) ?_
  refine iY (by rfl) ?_
  refine aY [1,2,3,4,5,12] ⟨[(1,.sl m.length (HL.ints m)),(2,.sl k.length (HL.ints k)),(3,.sl w.length (HL.ints w)),(4,.int .i64 at_),(5,.int .i64 how),(12,.bool false)],[],0⟩ rfl ?_
  exact Y8 m k w at_ how hml hmr hkl hkr hwl hwr ha hh
end Go.Proofs.Ytlbdmpjnmfmnfaa
end
section
namespace Go.Proofs.Ytlbdmpjnmfmnfaa
open Go.RowKit Go.HL
def FD (l:List Int):List Value:=l.map fun n=>.int .i64 n
theorem Ox {F:Nat->Prop} {h:Hp} {R:HV->Value->Prop} (l:List Int):OW F h R (HL.ints l) (FD l) []:=by
 induction l with
 | nil=>exact .nil
 | cons x r ih=>exact .int ih
theorem Fa {w:World} {a:Option Addr} {len cap:Nat} {zs:List Int} (h:(a=none/\len=0/\cap=0/\zs=[]) \/
  ∃x,a=some x/\len<=cap/\cap<=maxLen/\zs.length=cap/\(∀i,i<zs.length->w.cell? (x.add i)=some (.int .i64 (zs.getD i 0)))/\∀n∈zs,(Lit.int .i64 n).wf=true) :
  OW (fun b=>b<w.heap.size) w.heap dG [I (zs.take len)] [.slice a len cap] []/\(zs.take len).length=len/\len<=9223372036854775807:=by
 have hl:(zs.take len).length=len:=by
  rcases h with ⟨_,rfl,_,rfl⟩|⟨x,_,h1,_,h3,_⟩
  ·rfl
  ·simp;omega
 have hm:len<=9223372036854775807:=by
  rcases h with ⟨_,rfl,_,rfl⟩|⟨x,_,h1,h2,_⟩
  ·omega
  ·unfold maxLen at h2;omega
 refine ⟨?_,hl,hm⟩
 unfold I
 rw [hl]
 rcases Nat.eq_zero_or_pos len with rfl|hp
 ·exact .sl0 .nil
 ·rcases h with ⟨_,h0,_⟩|⟨x,rfl,h1,h2,h3,h4,-⟩
  ·omega
  ·have h0:=h4 0 (by omega)
   obtain ⟨g,off,spot⟩:=x
   obtain ⟨cur,e,fr,hg,hs⟩:∃cur e fr,w.heap[g]?=some (.cells cur e fr)/\spot=none:=by
    simp only [Addr.add,if_true,World.cell?] at h0
    split at h0
    ·rename_i cur e fr hg
     split at h0
     ·cases h0
     ·rename_i hn;exact ⟨_,_,_,hg,by simpa using hn⟩
    ·cases h0
   subst hs
   have hcell:∀k,k<len->cur[off+k]?=some (.int .i64 (zs.getD k 0)):=by
    intro k hk
    have h5:=h4 k (by omega)
    have e1:(⟨g,off,none⟩:Addr).add k=⟨g,off+k,none⟩:=by
     unfold Addr.add;split
     ·rename_i h;subst h;rfl
     ·rfl
    rw [e1] at h5
    simpa only [World.cell?,hg,Option.isSome_none,Bool.false_eq_true,if_false] using h5
   have hrv:FD (zs.take len)=(cur.toList.drop off).take (HL.ints (zs.take len)).length:=by
    rw [HL.ints_len,hl]
    apply nN
    intro k
    by_cases hk:k<len
    ·rw [vC,if_pos hk,CX]
     have:=hcell k hk
     rw [show cur.toList[off+k]?=cur[off+k]? from by simp,this]
     rw [FD,jd,vC,if_pos hk,bM (by omega)]
     simp [bH,bM (show k<zs.length by omega)]
    ·rw [qg (by simp [FD];omega),qg (by simp;omega)]
   exact .sl (F:=fun b=>b<w.heap.size) (zl035.1 hg).1 hg hrv h1 (Ox _) .nil
theorem said_of {P:Program} {f:FuncId} {args:List HV} {rargs:List Value} {w:World} (h:HT P f args (fun r=>r=.bool true)) (ho:OW (fun b=>b<w.heap.size) w.heap dG args rargs []) :
  Calls P f rargs.toArray w fun e w'=>e=.returned (.bool true)/\Below w.heap.size w w':=by
 refine (h.2 w rargs _ (fun b hb=>hb) ho).mono ?_
 rintro e w' ⟨rv,res,fs,rfl,rfl,h1,_,_,hb⟩
 rw [of_bool h1]
 exact ⟨rfl,hb⟩
theorem CO {F:Nat->Prop} {h:Hp} {v:HV} {r:List HV} {rv:Value} {rr:List Value} (h1:OW F h dG [v] [rv] []) (h2:OW F h dG r rr []):OW F h dG (v::r) (rv::rr) []:=h1.cons1 h2
theorem TD {F:Nat->Prop} {h:Hp} {r:List HV} {rr:List Value} {k:IntKind} {n:Int} (h2:OW F h dG r rr []):OW F h dG (.int k n::r) (.int k n::rr) []:=.int h2
theorem Lt {n:Int} (h:(Lit.int .i64 n).wf=true) : -9223372036854775808<=n/\n<=9223372036854775807:=by
 simp only [Lit.wf,bC,decide_eq_true_eq] at h
 have e1:IntKind.i64.min = -9223372036854775808:=rfl
 have e2:IntKind.i64.max=9223372036854775807:=rfl
 rw [e1,e2] at h
 exact h
theorem Fq {w:World} {a:Option Addr} {len cap:Nat} {zs:List Int} (h:(a=none/\len=0/\cap=0/\zs=[]) \/
  ∃x,a=some x/\len<=cap/\cap<=maxLen/\zs.length=cap/\(∀i,i<zs.length->w.cell? (x.add i)=some (.int .i64 (zs.getD i 0)))/\∀n∈zs,(Lit.int .i64 n).wf=true) :
  ∀k,k<(zs.take len).length -> -9223372036854775808<=(zs.take len).getD k 0/\(zs.take len).getD k 0<=9223372036854775807:=by
 intro k hk
 have hm:(zs.take len).getD k 0∈zs:=by
  rw [bH,bM hk,kC]
  exact Es (gy hk)
 rcases h with ⟨_,_,_,rfl⟩|⟨x,_,_,_,_,_,h⟩
 ·cases hm
 ·exact Lt (h _ hm)
end Go.Proofs.Ytlbdmpjnmfmnfaa
end
