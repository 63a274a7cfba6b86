import Derived.Test.YtlbdmpjnmfmnfaaHlBi
import Derived.Test.YtlbdmpjnmfmnfaaFsA
import Derived.Test.YtlbdmpjnmfmnfaaHlFi
import Derived.Test.YtlbdmpjnmfmnfaaCodes
import Derived.Test.YtlbdmpjnmfmnfaaFsB
import Derived.Test.YtlbdmpjnmfmnfaaFv2
import Derived.Test.YtlbdmpjnmfmnfaaFsZ
set_option linter.unusedSimpArgs false
set_option linter.unusedVariables false
set_option linter.unnecessarySimpa false
set_option maxHeartbeats 8000000
set_option maxRecDepth 30000
section
namespace Go.Proofs.Ytlbdmpjnmfmnfaa
open Go.RowKit Go.HL
theorem YS (n:Nat) (hn:n<=1000000):HT Try.prog 103 [.nils,.int .i64 n] (fun r=>r=.osl 1 0 []):=by
 refine HT.of rfl adQ (aZ rfl) ?_
 unfold adB
 simp only [aA,Nat.reduceAdd]
 rcases Nat.eq_zero_or_pos n with rfl|h0
 ·refine zFN ⟨?_⟩
  refine WL (by rfl) ?_
  refine zF ⟨?_⟩
  refine ae ?_
  rfl
 ·have hi:(0:Int)<n:=by omega
  refine zFN ⟨?_⟩
  refine WL (by rfl) ?_
  repeat (first|refine aa3 (by rfl) ?_|refine EY aQ rfl ?_|refine yK iJ ?_|refine au ?_|refine aH ?_|refine jh (by rfl) ?_|refine DJ (by rfl) ?_|refine JQ (by rfl) (by rfl) QC ?_|refine BL (by rfl) (by rfl) (by (try simp (disch:=omega) only [go_sem,Int.reduceAdd,Int.reduceSub,Int.reduceMul,decide_eq_true hi]);try rfl) ?_)
  refine WL (by rfl) ?_
  refine zFN ⟨?_⟩
  refine aci (by rfl) (by rfl) ?_
  refine zFN ⟨?_⟩
  refine ab3 (fr:=288) (cs:=(List.replicate n [HV.bool false]).flatten) (by rfl) (by rfl) h0 (by omega) oD (by rfl) rfl ?_
  refine zFN ⟨?_⟩
  refine Bh 4 [4] (⟨[(4,.ref 0 [] 1 0 0)],[(0,.osl 1 0 [])],1⟩:St) rfl rfl (tu _) (by rw [Me];exact HL.bools_flat _) (by decide) rfl ?_
  refine ae ?_
  rfl
def bR (ll:List (List Bool)):List HV:=ll.map fun b=>.sl b.length (HL.bools b)
theorem acM (ll:List (List Bool)):(bR ll).length=ll.length:=by simp [bR]
theorem acG (ll:List (List Bool)) {i:Nat} (h:i<ll.length):(bR ll).getD i .dead=.sl (ll.getD i []).length (HL.bools (ll.getD i [])):=by simp [bR,h]
attribute [go_sem] acM acG
def EZ (ll:List (List Bool)) (i:Nat):Nat:=((ll.take i).flatten).length
theorem JC {ll:List (List Bool)} {i:Nat} (h:i<ll.length):(ll.take (i+1)).flatten=(ll.take i).flatten++ll.getD i []:=by
 rw [vV,bM h,bH,bM h,List.flatten_append]
 simp only [F9,Gz,List.flatten_nil,List.append_nil,kC]
theorem Fp {ll:List (List Bool)} {i:Nat}:EZ ll i<=ll.flatten.length:=by
 unfold EZ
 have:(ll.take i).flatten++(ll.drop i).flatten=ll.flatten:=by rw [<- List.flatten_append,xu]
 rw [<- this,bD];omega
theorem I4 (ll:List (List Bool)) (hl:ll.length<=1000) (hs:ll.flatten.length<=1000000):HT Try.prog 74 [.sl ll.length (bR ll)] (fun r=>r=.osl 1 ll.flatten.length (HL.bools ll.flatten)):=by
 refine HT.of rfl agn (aZ rfl) ?_
 unfold c74
 simp only [aA,Nat.reduceAdd]
 refine zF ⟨?_⟩
 refine aI [0,3,9,10,11] (fun i:Nat=>i<=ll.length)
  (fun i=>⟨[(0,.sl ll.length (bR ll)),(3,.int .i64 (EZ ll i)),(9,.sl ll.length (bR ll)),(10,.int .i64 ll.length),(11,.int .i64 i)],[],0⟩)
  (fun i=>ll.length - i) 0 (by omega) (by simp [EZ];rfl) ?_
 intro i hi
 have hc:=Fp (ll:=ll) (i:=i)
 by_cases hil:i<ll.length
 ·have hst:=JC hil
  have hc2:=Fp (ll:=ll) (i:=i+1)
  have e:EZ ll (i+1)=EZ ll i+(ll.getD i []).length:=by unfold EZ;rw [hst,bD]
  have hneg:¬ ((EZ ll i:Int)+((ll.getD i []).length:Int)<0):=by omega
  refine zF ⟨?_⟩
  exact aP [0,3,9,10,11] (i+1) hil (by omega) (by rw [e];rfl)
 ·obtain rfl:i=ll.length:=by omega
  have e0:EZ ll ll.length=ll.flatten.length:=by unfold EZ;rw [fK]
  rw [e0]
  refine zF ⟨?_⟩
  refine aF ay aK (YS ll.flatten.length hs) ?_
  rintro _ rfl
  refine zG ⟨?_⟩
  refine zF ⟨?_⟩
  refine aI [6,25,26,27] (fun i:Nat=>i<=ll.length)
   (fun i=>⟨[(6,.ref 0 [] 1 0 (ll.take i).flatten.length),(25,.sl ll.length (bR ll)),(26,.int .i64 ll.length),(27,.int .i64 i)],[(0,.osl 1 (ll.take i).flatten.length (HL.bools (ll.take i).flatten))],1⟩)
   (fun i=>ll.length - i) 0 (by omega) (by simp;rfl) ?_
  intro i hi
  have hc:=Fp (ll:=ll) (i:=i)
  unfold EZ at hc
  by_cases hil:i<ll.length
  ·have hst:=JC hil
   have hc2:=Fp (ll:=ll) (i:=i+1)
   unfold EZ at hc2
   rw [hst,bD] at hc2
   generalize (ll.take i).flatten=Q at hst hc hc2 ⊢
   generalize hb:ll.getD i []=b at hst hc2
   refine eH (zA @hb @HL.bools_app) ⟨?_⟩
   refine aP [6,25,26,27] (i+1) hil (by omega) ?_
   rw [hst]
   simp only [bD]
   rfl
  ·obtain rfl:i=ll.length:=by omega
   rw [fK]
   refine zF ⟨?_⟩
   refine ae ?_
   rfl
end Go.Proofs.Ytlbdmpjnmfmnfaa
end
section
namespace Go.Proofs.Ytlbdmpjnmfmnfaa
open Go.RowKit Go.HL Go.FS
abbrev Tn:=List Bool×List A
def jm (p q:Int):A:=⟨p,-1,-1,q⟩
def I9 (p q:Tn):Tn:=if Dc [p,q] then ([false]++(p.1++q.1),[jm 0 1,jm 0 (1+p.1.length)]++p.2.map (mg 1)++q.2.map (mg (1+p.1.length))) else ([],[])
def oJ (p q:Tn):Tn:=if Dc [p,q] then (List.replicate p.1.length false++q.1,p.2.map (mg 0)++q.2.map (mg p.1.length)++(jA p.1 p.1.length).map fun i=>jm i p.1.length) else ([],[])
def og (p:Tn):Tn:=if Dc [p] then (true::List.replicate p.1.length false,[jm 0 1]++p.2.map (mg 1)++(jA p.1 p.1.length).map fun i=>jm (i+1) 0) else ([],[])
theorem Vb {p q:Tn} (h:Dc [p,q]=true):okF p.1 p.2=true/\okF q.1 q.2=true/\p.1.length+q.1.length<=2000/\p.2.length+q.2.length<=6000:=by
 simp only [Dc,xC,List.all_nil,Bool.and_true,bC,decide_eq_true_eq,ER,EX,dV,pY,List.sum_cons,List.sum_nil,Nat.add_zero] at h
 exact ⟨h.1.1,h.1.2,h.2.1,h.2.2⟩
theorem abr {p:Tn} (h:Dc [p]=true):okF p.1 p.2=true/\p.1.length<=2000/\p.2.length<=6000:=by
 simp only [Dc,xC,List.all_nil,Bool.and_true,bC,decide_eq_true_eq,ER,EX,dV,pY,List.sum_cons,List.sum_nil,Nat.add_zero] at h
 exact ⟨h.1,h.2.1,h.2.2⟩
end Go.Proofs.Ytlbdmpjnmfmnfaa
end
section
namespace Go.Proofs.Ytlbdmpjnmfmnfaa
open Go.RowKit Go.HL
theorem mO (n:Int) (m:Nat) (hm:0<m) (hm2:m<=1099511627776) (h1 : -9223372036854775808<=n) (h2:n<=9223372036854775807):HT Try.prog 16 [.int .i64 n,.int .i64 m] (fun r=>∃y:Nat,r=.int .i64 y/\y<m):=by
 refine HT.of rfl ab5 (aZ rfl) ?_
 unfold c16
 simp only [aA,Nat.reduceAdd]
 by_cases h0:n<0
 ·obtain ⟨x,hx⟩:∃x:Nat,0 - (n+1)=x:=⟨(-(n+1)).toNat,by omega⟩
  have ht:(x:Int).tmod m=((x % m:Nat):Int):=(Int.ofNat_tmod x m).symm
  have hlt:=Nat.mod_lt x hm
  repeat (first|refine EY aQ rfl ?_|refine yK iJ ?_|refine au ?_|refine aH ?_|refine Ce (by rfl) (by rfl) QC ?_|refine jh (by rfl) ?_|refine C9 (by rfl) (by rfl) (by (try simp (disch:=omega) only [go_sem,Int.reduceAdd,Int.reduceSub,Int.reduceMul,hx,ht]);try rfl) ?_|refine Hq (by rfl) (by rfl) (by omega) (by (try simp (disch:=omega) only [go_sem,Int.reduceAdd,Int.reduceSub,Int.reduceMul,hx,ht]);try rfl) ?_|refine Hu (by rfl) (by (try simp (disch:=omega) only [go_sem,Int.reduceAdd,Int.reduceSub,Int.reduceMul,hx,ht]);try rfl) ?_)
  refine ae ?_
  exact ⟨x % m,rfl,hlt⟩
 ·obtain ⟨x,rfl⟩:∃x:Nat,n=x:=⟨n.toNat,by omega⟩
  have ht:(x:Int).tmod m=((x % m:Nat):Int):=(Int.ofNat_tmod x m).symm
  have hlt:=Nat.mod_lt x hm
  refine eH @ht ⟨?_⟩
  refine ae ?_
  exact ⟨x % m,rfl,hlt⟩
theorem BQ (l:List Int) (i:Nat) (m:Nat) (hm:0<m) (hm2:m<=1099511627776) (hi:i<=1000000) (hl:l.length<=9223372036854775807) (hr:∀k,k<l.length -> -9223372036854775808<=l.getD k 0/\l.getD k 0<=9223372036854775807):HT Try.prog 50 [I l,.int .i64 i,.int .i64 m] (fun r=>∃y:Nat,r=.int .i64 y/\y<m):=by
 refine HT.of rfl afF (aZ rfl) ?_
 unfold c50
 simp only [I,aA,Nat.reduceAdd]
 by_cases hil:i<l.length
 ·have:=hr i hil
  refine zF ⟨?_⟩
  refine aF ay aK (mO (l.getD i 0) m hm hm2 this.1 this.2) ?_
  rintro _ ⟨y,rfl,hy⟩
  refine zG ⟨?_⟩
  refine zF ⟨?_⟩
  refine ae ?_
  exact ⟨y,rfl,hy⟩
 ·refine zF ⟨?_⟩
  refine ae ?_
  exact ⟨0,rfl,hm⟩
end Go.Proofs.Ytlbdmpjnmfmnfaa
end
section
namespace Go.Proofs.Ytlbdmpjnmfmnfaa
open Go.RowKit Go.HL Go.FS
theorem Ic (x:Nat) (h:x<=1048576):HT Try.prog 51 [.int .i64 x] (fun r=>∃y:Int,r=.int .i64 y /\ -1<=y/\y<=2):=by
 refine HT.of rfl aft (aZ rfl) ?_
 unfold c51
 simp only [aA,Nat.reduceAdd]
 have h7:((x:Int).tmod 7).tmod 4=((x % 7 % 4:Nat):Int):=by
  have e:(x:Int).tmod 7=(x:Int) % 7:=Int.tmod_eq_emod_of_nonneg (by omega)
  rw [e,Int.tmod_eq_emod_of_nonneg (by omega)];omega
 have h8:x % 7 % 4<4:=Nat.mod_lt _ (by decide)
 generalize x % 7 % 4=y at h7 h8
 refine eH @h7 ⟨?_⟩
 refine ae ?_
 exact ⟨_,rfl,by omega,by omega⟩
theorem xU {α:Type} [Inhabited α] {g:α->List HV} {k:Nat} (r:Rec g k) {v:HV} {x:α}:∀ (l:List α) {i j:Nat},i<l.length->j<k->(g (l.getD i default)).set j v=g x->(recs g l).set (i*k+j) v=recs g (l.set i x)
 | [],i,j,h,_,_=>by simp at h
 | a::l,0,j,_,hj,he=>by
  have e:recs g (a::l)=g a++recs g l:=rfl
  rw [e,Nat.zero_mul,Nat.zero_add,List.set_append_left _ _ (by rw [r.len];exact hj)]
  simp only [List.getD_cons_zero] at he
  rw [he];rfl
 | a::l,i+1,j,h,hj,he=>by
  have e:recs g (a::l)=g a++recs g l:=rfl
  have hl:=r.len a
  rw [e,NQ _ _ (by rw [hl,lg,BV];omega),hl,show (i+1)*k+j - k=i*k+j by rw [lg,BV];omega,xU r l (by simpa using h) hj (by simpa using he)]
  rfl
theorem Vt (l:List A) {i:Nat} (v:Int) (h:i<l.length):(recs aC l).set (i*4) (.int .i64 v)=recs aC (l.set i { l.getD i default with f:=v }):=xU aR (j:=0) l h (by omega) rfl
theorem VG (l:List A) {i:Nat} (v:Int) (h:i<l.length):(recs aC l).set (i*4+1) (.int .i64 v)=recs aC (l.set i { l.getD i default with i:=v }):=xU aR l h (by omega) rfl
theorem Um (l:List A) {i:Nat} (v:Int) (h:i<l.length):(recs aC l).set (i*4+2) (.int .i64 v)=recs aC (l.set i { l.getD i default with o:=v }):=xU aR l h (by omega) rfl
theorem U8 (l:List A) {i:Nat} (v:Int) (h:i<l.length):(recs aC l).set (i*4+3) (.int .i64 v)=recs aC (l.set i { l.getD i default with t:=v }):=xU aR l h (by omega) rfl
attribute [go_sem] Vt VG Um U8
theorem fD (F:List Bool) (X:List A) (n m:Nat):stripL [.osl 1 n (HL.bools F),.osl 4 m (recs aC X)]=[.sl n (HL.bools F),.sl m (recs aC X)]:=by simp [stripL,HV.strip,HL.bools_strip,gQ]
theorem EM (fin:List Bool) (al:List A) (p q:Int) (hf:fin.length<=2000) (ha0:0<al.length) (ha:al.length<=2001) (hp : -9223372036854775808<=p/\p<=9223372036854775807) (hq : -9223372036854775808<=q/\q<=9223372036854775807) :
  hx Try.prog [.c KL] (finish [6] (KC [.c 6 true 2] fun r=>∃fin al,r=.agg (dE fin al)/\fin.length<=9000/\al.length<=9000))
   ⟨[(1,.int .i64 p),(2,.int .i64 q),(6,.pref 0 [] 0),(7,.pref 1 [] 0)],[(0,.optr [.nils,.nils]),(1,.optr [.osl 1 fin.length (HL.bools fin),.osl 4 al.length (recs aC al)])],2⟩:=by
 unfold KL V8
 generalize hC:Yi=C
 refine zF ⟨?_⟩
 refine aF ay aK (mO p al.length ha0 (by omega) hp.1 hp.2) ?_
 rintro _ ⟨y,rfl,hy⟩
 refine zG ⟨?_⟩
 refine zF ⟨?_⟩
 refine aF ay aK (mO q 8 (by omega) (by omega) hq.1 hq.2) ?_
 rintro _ ⟨z,rfl,hz⟩
 refine zG ⟨?_⟩
 rcases (show z=0\/z=1\/z=2\/z=3\/z=4\/z=5\/z=6\/z=7 by omega) with rfl|rfl|rfl|rfl|rfl|rfl|rfl|rfl
 ·refine zF ⟨?_⟩
  subst hC
  refine aX 1 [1] [6,7] (⟨[(6,.pref 0 [] 0),(7,.pref 1 [] 0)],[(0,.optr [.nils,.nils]),(1,.optr [.osl 1 0 [],.osl 4 al.length (recs aC al)])],2⟩:St) rfl rfl ?_
  refine az 1 [6,7] ⟨[(6,.pref 0 [] 0),(7,.ptr (stripL [.osl 1 0 (HL.bools []),.osl 4 al.length (recs aC al)]) 0)],[(0,.optr [.nils,.nils])],1⟩ rfl ?_
  rw [fD]
  refine zF ⟨?_⟩
  refine ae ?_
  exact ⟨_,_,rfl,rfl,[],al,by rw [dE,fB];rfl,by first|omega|(rw [List.length_replicate];omega)|simp,by first|omega|(rw [List.length_set];omega)|(rw [List.length_replicate];omega)⟩
 ·refine zF ⟨?_⟩
  subst hC
  refine az 1 [6,7] ⟨[(6,.pref 0 [] 0),(7,.ptr (stripL [.osl 1 fin.length (HL.bools fin),.osl 4 al.length (recs aC (al.set y { al.getD y default with f:=fin.length }))]) 0)],[(0,.optr [.nils,.nils])],1⟩ rfl ?_
  rw [fD]
  refine zF ⟨?_⟩
  refine ae ?_
  exact ⟨_,_,rfl,rfl,fin,(al.set y { al.getD y default with f:=fin.length }),by rw [dE,fB];rw [List.length_set];rfl,by first|omega|(rw [List.length_replicate];omega)|simp,by first|omega|(rw [List.length_set];omega)|(rw [List.length_replicate];omega)⟩
 ·refine zF ⟨?_⟩
  subst hC
  refine az 1 [6,7] ⟨[(6,.pref 0 [] 0),(7,.ptr (stripL [.osl 1 fin.length (HL.bools fin),.osl 4 al.length (recs aC (al.set y { al.getD y default with t := -1 }))]) 0)],[(0,.optr [.nils,.nils])],1⟩ rfl ?_
  rw [fD]
  refine zF ⟨?_⟩
  refine ae ?_
  exact ⟨_,_,rfl,rfl,fin,(al.set y { al.getD y default with t := -1 }),by rw [dE,fB];rw [List.length_set];rfl,by first|omega|(rw [List.length_replicate];omega)|simp,by first|omega|(rw [List.length_set];omega)|(rw [List.length_replicate];omega)⟩
 ·refine zF ⟨?_⟩
  subst hC
  refine az 1 [6,7] ⟨[(6,.pref 0 [] 0),(7,.ptr (stripL [.osl 1 fin.length (HL.bools fin),.osl 4 al.length (recs aC (al.set y { al.getD y default with i:=64 }))]) 0)],[(0,.optr [.nils,.nils])],1⟩ rfl ?_
  rw [fD]
  refine zF ⟨?_⟩
  refine ae ?_
  exact ⟨_,_,rfl,rfl,fin,(al.set y { al.getD y default with i:=64 }),by rw [dE,fB];rw [List.length_set];rfl,by first|omega|(rw [List.length_replicate];omega)|simp,by first|omega|(rw [List.length_set];omega)|(rw [List.length_replicate];omega)⟩
 ·refine zF ⟨?_⟩
  subst hC
  refine az 1 [6,7] ⟨[(6,.pref 0 [] 0),(7,.ptr (stripL [.osl 1 fin.length (HL.bools fin),.osl 4 al.length (recs aC (al.set y { al.getD y default with o := -2 }))]) 0)],[(0,.optr [.nils,.nils])],1⟩ rfl ?_
  rw [fD]
  refine zF ⟨?_⟩
  refine ae ?_
  exact ⟨_,_,rfl,rfl,fin,(al.set y { al.getD y default with o := -2 }),by rw [dE,fB];rw [List.length_set];rfl,by first|omega|(rw [List.length_replicate];omega)|simp,by first|omega|(rw [List.length_set];omega)|(rw [List.length_replicate];omega)⟩
 ·refine zF ⟨?_⟩
  subst hC
  refine az 1 [6,7] ⟨[(6,.pref 0 [] 0),(7,.ptr (stripL [.osl 1 2049 (HL.bools (List.replicate 2049 false)),.osl 4 al.length (recs aC al)]) 0)],[(0,.optr [.nils,.nils])],1⟩ rfl ?_
  rw [fD]
  refine zF ⟨?_⟩
  refine ae ?_
  exact ⟨_,_,rfl,rfl,(List.replicate 2049 false),al,by rw [dE,fB];rw [List.length_replicate];rfl,by first|omega|(rw [List.length_replicate];omega)|simp,by first|omega|(rw [List.length_set];omega)|(rw [List.length_replicate];omega)⟩
 ·refine zF ⟨?_⟩
  subst hC
  refine az 1 [6,7] ⟨[(6,.pref 0 [] 0),(7,.ptr (stripL [.osl 1 fin.length (HL.bools fin),.osl 4 8193 (recs aC (List.replicate 8193 ⟨0,0,0,0⟩))]) 0)],[(0,.optr [.nils,.nils])],1⟩ rfl ?_
  rw [fD]
  refine zF ⟨?_⟩
  refine ae ?_
  exact ⟨_,_,rfl,rfl,fin,(List.replicate 8193 ⟨0,0,0,0⟩),by rw [dE,fB];rw [List.length_replicate];rfl,by first|omega|(rw [List.length_replicate];omega)|simp,by first|omega|(rw [List.length_set];omega)|(rw [List.length_replicate];omega)⟩
 ·refine zF ⟨?_⟩
  subst hC
  refine az 1 [6,7] ⟨[(6,.pref 0 [] 0),(7,.ptr (stripL [.osl 1 fin.length (HL.bools fin),.osl 4 al.length (recs aC (al.set y { al.getD y default with o:=63 }))]) 0)],[(0,.optr [.nils,.nils])],1⟩ rfl ?_
  rw [fD]
  refine zF ⟨?_⟩
  refine ae ?_
  exact ⟨_,_,rfl,rfl,fin,(al.set y { al.getD y default with o:=63 }),by rw [dE,fB];rw [List.length_set];rfl,by first|omega|(rw [List.length_replicate];omega)|simp,by first|omega|(rw [List.length_set];omega)|(rw [List.length_replicate];omega)⟩
theorem I5 (fin:List Bool) (al:List A) (p q:Int) (hf:fin.length<=2000) (ha:al.length<=2000) (hp : -9223372036854775808<=p/\p<=9223372036854775807) (hq : -9223372036854775808<=q/\q<=9223372036854775807):HT Try.prog 12 [.agg (dE fin al),.int .i64 p,.int .i64 q] (fun r=>∃fin al,r=.agg (dE fin al)/\fin.length<=9000/\al.length<=9000):=by
 refine HT.ofC rfl agr [6] rfl (aZ rfl) ?_
 unfold c12 WU Y1
 generalize hC:KL=C
 simp only [aA,Nat.reduceAdd,dE,fB]
 refine zF ⟨?_⟩
 refine az 0 [1,2,3,6] ⟨[(1,.int .i64 p),(2,.int .i64 q),(3,.ptr (stripL [.sl fin.length (HL.bools fin),.sl al.length (recs aC al)]) 0),(6,.pref 0 [] 0)],[(0,.optr [.nils,.nils])],1⟩ rfl ?_
 rw [gu]
 refine iW [3] [] ah ah (fun _ _ _=>False) (by simp [ax,HV.deep,aO,bJ,bP]) (by simp) ?_
 by_cases ha0:0<al.length
 ·refine zF ⟨?_⟩
  subst hC
  refine jX (Weak.norm2 [1,2,6,7] _) ?_
  exact EM fin al p q hf ha0 (by omega) hp hq
 ·obtain rfl:al=[]:=List.length_eq_zero_iff.1 (by omega)
  refine zF ⟨?_⟩
  subst hC
  refine jX (Weak.norm2 [1,2,6,7] _) ?_
  exact EM fin [⟨0,0,0,0⟩] p q hf (by simp) (by simp) hp hq
end Go.Proofs.Ytlbdmpjnmfmnfaa
end
