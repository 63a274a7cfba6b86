import Derived.Test.YtlbdmpjnmfmnfaaMnA
import Derived.Test.YtlbdmpjnmfmnfaaFsP
import Derived.Test.YtlbdmpjnmfmnfaaCodes
import Derived.Test.YtlbdmpjnmfmnfaaHlW
set_option linter.unusedSimpArgs false
set_option linter.unusedVariables false
set_option maxHeartbeats 4000000
section
namespace Go.Proofs.Ytlbdmpjnmfmnfaa
open Go.HL Go.FS
def recs {α:Type} (g:α->List HV) (l:List α):List HV:=l.flatMap g
structure Rec {α:Type} (g:α->List HV) (k:Nat):Prop where
 len:∀x,(g x).length=k
 flat:∀x,bC (g x)=true
 cell:∀x,gW (g x)=true
 strip:∀x,stripL (g x)=g x
section
variable {α:Type} {g:α->List HV} {k:Nat}
theorem wX (r:Rec g k) (l:List α):(recs g l).length=l.length*k:=by
 induction l with
 | nil=>simp [recs]
 | cons x l ih=>simp only [recs,List.flatMap_cons,dQ,r.len,List.length_cons] at ih ⊢;rw [ih,nU];omega
theorem Tz (r:Rec g k) (l:List α):bC (recs g l)=true:=by
 simp only [bC,recs,List.all_flatMap,zl016]
 intro x _ v hv
 exact zl016.1 (r.flat x) v hv
theorem IC (r:Rec g k) (l:List α):gW (recs g l)=true:=by
 simp only [gW,recs,List.all_flatMap,zl016]
 intro x _ v hv
 exact zl016.1 (r.cell x) v hv
theorem IA (a b:List HV):stripL (a++b)=stripL a++stripL b:=by
 induction a with
 | nil=>rfl
 | cons x a ih=>simp [stripL,ih]
theorem Gv (r:Rec g k) (l:List α):stripL (recs g l)=recs g l:=by
 induction l with
 | nil=>rfl
 | cons x l ih=>simp only [recs,List.flatMap_cons,IA,r.strip] at ih ⊢;rw [ih]
theorem Ak (l:List α) (x:α):recs g l++g x=recs g (l++[x]):=by simp [recs]
theorem Dc (l m:List α):recs g l++recs g m=recs g (l++m):=by simp [recs]
theorem Ug (r:Rec g k) (l:List α) (i:Nat):(recs g l).drop (i*k)=recs g (l.drop i):=by
 induction l generalizing i with
 | nil=>simp [recs]
 | cons x l ih =>
  cases i with
  | zero=>simp
  | succ i =>
   have:(i+1)*k=k+i*k:=by rw [nU];omega
   simp only [recs,List.flatMap_cons,List.drop_succ_cons] at ih ⊢
   rw [this,<- sV,List.drop_left' (r.len x)]
   exact ih i
theorem Tu (r:Rec g k) (l:List α) (i:Nat):(recs g l).take (i*k)=recs g (l.take i):=by
 induction l generalizing i with
 | nil=>simp [recs]
 | cons x l ih =>
  cases i with
  | zero=>simp [recs]
  | succ i =>
   have:(i+1)*k=k+i*k:=by rw [nU];omega
   simp only [recs,List.flatMap_cons,List.take_succ_cons] at ih ⊢
   rw [this,List.take_append,r.len,kC (by rw [r.len];omega),Nat.add_sub_cancel_left,ih i]
theorem UQ (r:Rec g k) (l:List α) {o n:Nat} (h:o+n<=l.length):win (recs g l) (o*k) (n*k)=recs g ((l.drop o).take n):=by
 have e:((recs g l).drop (o*k)).take (n*k)=recs g ((l.drop o).take n):=by rw [Ug r,Tu r]
 unfold win
 split
 ·rename_i hc
  rw [<- e,hc.1,List.drop_zero,hc.2,ig]
 ·exact e
theorem NR (r:Rec g k) (l:List α) {n:Nat} (h:n=l.length*k):win (recs g l) 0 n=recs g l:=dw _ (by rw [wX r];exact h)
theorem y8 [Inhabited α] (r:Rec g k) (l:List α) {i:Nat} (h:i<l.length):win (recs g l) (i*k) k=g (l.getD i default):=by
 have:=UQ r l (o:=i) (n:=1) (by omega)
 rw [Es] at this
 rw [this,WO h,List.take_succ_cons,List.take_zero]
 simp only [recs,List.flatMap_cons,List.flatMap_nil,List.append_nil]
 simp [h]
theorem GV [Inhabited α] (r:Rec g k) (l:List α) {i j:Nat} (h:i<l.length) (hj:j<k):(recs g l).getD (i*k+j) .dead=(g (l.getD i default)).getD j .dead:=by
 rw [<- y8 r l h]
 have hl:=wX r l
 have h2:i*k+k<=l.length*k:=by
  have:=EK k (show i+1<=l.length by omega)
  rw [nU] at this;omega
 simp only [bf]
 unfold win
 split
 ·rename_i hc;rw [hc.1,Nat.zero_add]
 ·rw [wz,if_pos hj,EI]
end
def aC (a:A):List HV:=[.int .i64 a.f,.int .i64 a.i,.int .i64 a.o,.int .i64 a.t]
theorem aR:Rec aC 4:=⟨fun _=>rfl,fun _=>rfl,fun _=>rfl,fun _=>rfl⟩
abbrev TP (l:List A):List HV:=recs aC l
def fU (l:List A):HV:=.sl l.length (TP l)
def pC (x:Nd):List HV:=[.int .i64 x.1,.int .i64 x.2]
theorem pR:Rec pC 2:=⟨fun _=>rfl,fun _=>rfl,fun _=>rfl,fun _=>rfl⟩
abbrev BP (l:List Nd):List HV:=recs pC l
theorem XQ (l:List A) {i:Nat} (h:i<l.length):win (recs aC l) (i*4) 4=[.int .i64 (l.getD i default).f,.int .i64 (l.getD i default).i,.int .i64 (l.getD i default).o,.int .i64 (l.getD i default).t]:=y8 aR l h
theorem YU (l:List Nd) {i:Nat} (h:i<l.length):win (recs pC l) (i*2) 2=[.int .i64 (l.getD i default).1,.int .i64 (l.getD i default).2]:=y8 pR l h
theorem WV (l:List Nd) {i:Nat} (h:i<l.length):(recs pC l).getD (i*2+0) .dead=.int .i64 (l.getD i default).1:=GV pR l h (by omega)
theorem ZG (l:List Nd) {i:Nat} (h:i<l.length):(recs pC l).getD (i*2) .dead=.int .i64 (l.getD i default).1:=GV pR (j:=0) l h (by omega)
theorem Xq (l:List Nd) {i:Nat} (h:i<l.length):(recs pC l).getD (i*2+1) .dead=.int .i64 (l.getD i default).2:=GV pR l h (by omega)
theorem Ox (l:List A):(recs aC l).length=l.length*4:=wX aR l
theorem Rz (l:List Nd):(recs pC l).length=l.length*2:=wX pR l
theorem NI (l:List Nd):bC (recs pC l)=true:=Tz pR l
theorem TS (l:List A):gW (recs aC l)=true:=IC aR l
theorem Xz (l:List Nd):gW (recs pC l)=true:=IC pR l
theorem jO (l:List A):stripL (recs aC l)=recs aC l:=Gv aR l
theorem DT (l:List Nd):stripL (recs pC l)=recs pC l:=Gv pR l
theorem JB (l:List A) (a b c d:Int):recs aC l++[.int .i64 a,.int .i64 b,.int .i64 c,.int .i64 d]=recs aC (l++[⟨a,b,c,d⟩]):=Ak l ⟨a,b,c,d⟩
theorem WL (l:List Nd) (a b:Int):recs pC l++[.int .i64 a,.int .i64 b]=recs pC (l++[(a,b)]):=Ak l (a,b)
theorem L8 (l:List A) {n:Nat} (h:n=l.length*4):win (recs aC l) 0 n=recs aC l:=NR aR l h
theorem aac (l:List Nd) {n:Nat} (h:n=l.length*2):win (recs pC l) 0 n=recs pC l:=NR pR l h
theorem Wj:recs aC []=[]:=rfl
theorem Zi:recs pC []=[]:=rfl
attribute [go_sem] XQ YU WV ZG Xq Ox Rz NI TS Xz JB WL L8 aac jO DT Wj Zi okV
def dR (fin:List Bool) (al:List A):List HV:=[.sl fin.length (HL.bools fin),fU al]
def dH (ll:List (List A)):List HV:=ll.map fU
def dV (ll:List (List A)):List HV:=ll.map fun l=>.osl 4 l.length (TP l)
theorem DZ (ll:List (List A)):(dH ll).length=ll.length:=by simp [dH]
theorem Ac (ll:List (List A)):(dV ll).length=ll.length:=by simp [dV]
theorem nO (ll:List (List A)):stripL (dV ll)=dH ll:=by
 induction ll with
 | nil=>rfl
 | cons l ll ih=>simp only [dV,dP,stripL,HV.strip,jO,dH] at ih ⊢;rw [ih];rfl
theorem EN (ll:List (List A)):stripL (dH ll)=dH ll:=by
 induction ll with
 | nil=>rfl
 | cons l ll ih=>simp only [dH,dP,stripL,fU,HV.strip,jO] at ih ⊢;rw [ih]
theorem JJ (ll:List (List A)) {i:Nat} (h:i<ll.length):(dH ll).getD i .dead=.sl (ll.getD i []).length (TP (ll.getD i [])):=by simp [dH,h,fU]
theorem SX (ll:List (List A)) {i:Nat} (h:i<ll.length):(dV ll).getD i .dead=.osl 4 (ll.getD i []).length (TP (ll.getD i [])):=by simp [dV,h]
theorem IK (ll:List (List A)) (i:Nat) (l:List A) (d:HV) {n:Nat} (hn:n=l.length):((dV ll).set i d).set i (.osl 4 n (TP l))=dV (ll.set i l):=by subst hn;simp [dV,List.map_set]
def aT (p:A->Int) (n:Nat) (l:List A):List (List A):=(List.range n).map fun i:Nat=>l.filter fun a=>p a==(i:Int)
theorem iw (p:A->Int) (n:Nat) (l:List A):(aT p n l).length=n:=by simp [aT]
theorem Gu (p:A->Int) (n:Nat):aT p n []=List.replicate n []:=by
 apply rF
 intro i
 simp only [aT,List.filter_nil,fZ,List.getElem?_range,List.getElem?_replicate]
 split<;>simp_all
theorem nH (p:A->Int) {n i:Nat} (l:List A) (h:i<n):(aT p n l).getD i []=l.filter fun a=>p a==(i:Int):=by simp [aT,h]
theorem He {p:A->Int} {n i:Nat} {l:List A}:((aT p n l).getD i []).length<=l.length:=by
 by_cases h:i<n
 ·rw [nH p l h];exact List.length_filter_le _ _
 ·have:(aT p n l).getD i []=[]:=by simp [aT,h]
  rw [this];exact dS _
theorem E8 {p:A->Int} {n:Nat} {l:List A} {a:A} {j:Nat} (hj:p a=(j:Int)):(aT p n l).set j ((aT p n l).getD j []++[a])=aT p n (l++[a]):=by
 apply rF
 intro i
 rw [CW]
 by_cases hi:i<n
 ·by_cases e:j=i
  ·subst e
   rw [nH p l hi]
   simp [aT,hi,hj]
  ·have:¬ (j:Int)=(i:Int):=by omega
   simp [aT,hi,e,hj,this]
 ·simp [aT,hi]
  intro e;omega
theorem ZY (n:Nat):(List.replicate n [HV.osl 4 0 []]).flatten=dV (List.replicate n []):=by
 induction n with
 | zero=>rfl
 | succ n ih=>rw [Hr,Ol,ih];rfl
theorem HY (ll:List (List A)):dU (dV ll)=true:=by
 have hr:∀l:List A,dU (TP l)=true:=fun l=>by
  induction l with
  | nil=>rfl
  | cons a l ih=>simpa [recs,aC,dU,HV.noRd] using ih
 induction ll with
 | nil=>rfl
 | cons l ll ih=>simp only [dV,dP,dU,HV.noRd,hr,uj] at ih ⊢;exact ih
theorem TJ (l:List Nd) (p q:Int):Fg (l.map pk) (qh l.length) (.bool false) (.agg [.int .i64 p,.int .i64 q])=(.bool (decide ((p,q)∈l)),decide ((p,q)∈l)):=by
 rw [show HV.agg [.int .i64 p,.int .i64 q]=pk (p,q) from rfl,OD IX];congr
theorem O0 (l:List Nd) (id:Nat) (pa:List Nat) (p q:Int):o6 id pa (l.map pk) (qh l.length) (.bool false) (.agg [.int .i64 p,.int .i64 q])=(.bool (decide ((p,q)∈l)),decide ((p,q)∈l)):=by
 rw [show HV.agg [.int .i64 p,.int .i64 q]=pk (p,q) from rfl,UE IX];congr
theorem DN (l:List Nd) (kd:KK) (p q:Int):zM ⟨kd,none⟩ (l.map pk) (qh l.length) (.agg [.int .i64 p,.int .i64 q]) (.bool true)=.omap ⟨kd,none⟩ ((ins (p,q) l).map pk) (qh (ins (p,q) l).length):=Vt IX (p,q) l
attribute [go_sem] TJ O0 DN DZ Ac nO EN JJ SX ZY
end Go.Proofs.Ytlbdmpjnmfmnfaa
end
section
namespace Go.Proofs.Ytlbdmpjnmfmnfaa
open Go.RowKit Go.HL Go.FS
def okA (n:Nat) (a:A):Bool:=decide (0<=a.f/\a.f<n/\0<=a.t/\a.t<n /\ -1<=a.i/\a.i<64 /\ -1<=a.o/\a.o<64)
def okF (fin:List Bool) (al:List A):Bool:=decide (1<=fin.length/\fin.length<=2048/\al.length<=8192)&&al.all (okA fin.length)
theorem zT (x:Int):HT Try.prog 72 [.int .i64 x] (fun r=>r=.bool (decide (0<=x/\x<64))):=by
 refine HT.of rfl aeJ (bF rfl) ?_
 unfold c72
 simp only [ay,Nat.reduceAdd]
 by_cases h1:0<=x
 ·by_cases h2:x<64
  ·refine zF ⟨?_⟩
   refine ae ?_
   simp [bG,h1,h2]
  ·refine zF ⟨?_⟩
   refine ae ?_
   simp [bG,h1,h2]
 ·refine zF ⟨?_⟩
  refine ae ?_
  simp [bG,h1]
theorem okA_iff {n:Nat} {a:A}:okA n a=true <-> 0<=a.f/\a.f<n/\0<=a.t/\a.t<n /\ -1<=a.i/\a.i<64 /\ -1<=a.o/\a.o<64:=by simp [okA]
theorem NK {n:Nat} {al:List A} {k:Nat} (h:k<al.length):(al.take (k+1)).all (okA n)=((al.take k).all (okA n)&&okA n (al.getD k default)):=by
 rw [rG,List.all_append]
 simp [h]
theorem gK {n:Nat} {al:List A} {k:Nat} (h:k<al.length) (h2:okA n (al.getD k default)=false):al.all (okA n)=false:=by
 rw [List.all_eq_false]
 exact ⟨al.getD k default,by rw [bf,bn h];exact iD h,by rw [h2];simp⟩
theorem wB (fin:List Bool) (al:List A) (hf:fin.length<=9223372036854775807) (ha:al.length<=9223372036854775807):HT Try.prog 26 [.agg (dR fin al)] (fun r=>r=.bool (okF fin al)):=by
 refine HT.of rfl ae8 (bF rfl) ?_
 unfold c26
 simp only [ay,Nat.reduceAdd,dR,fU]
 by_cases hb:1<=fin.length/\fin.length<=2048/\al.length<=8192
 ·obtain ⟨h1,h2,h3⟩:=hb
  have hd:okF fin al=al.all (okA fin.length):=by simp [okF,h1,h2,h3]
  refine zF ⟨?_⟩
  refine aF [1,3,22,23,24] (fun k:Nat=>k<=al.length/\(al.take k).all (okA fin.length)=true)
   (fun k=>⟨[(1,.pref 0 [] 0),(3,.int .i64 fin.length),(22,.sl al.length (recs aC al)),(23,.int .i64 al.length),(24,.int .i64 k)],[(0,.optr [.sl fin.length (HL.bools fin),.sl al.length (recs aC al)])],1⟩)
   (fun k=>al.length - k) 0 ⟨by omega,by simp⟩ rfl ?_
  rintro k ⟨hk,hall⟩
  by_cases hkl:k<al.length
  ·have hst:=NK (n:=fin.length) hkl
   rw [hall,uj] at hst
   by_cases f0:0<=(al.getD k default).f
   ·by_cases f1:(al.getD k default).f<fin.length
    ·by_cases t0:0<=(al.getD k default).t
     ·by_cases t1:(al.getD k default).t<fin.length
      ·refine zF ⟨?_⟩
       refine aX aG bz (zT (al.getD k default).i) ?_
       rintro _ rfl
       by_cases i0:0<=(al.getD k default).i/\(al.getD k default).i<64
       ·rw [decide_eq_true i0]
        refine zG ⟨?_⟩
        refine zF ⟨?_⟩
        refine aX aG bz (zT (al.getD k default).o) ?_
        rintro _ rfl
        by_cases o0:0<=(al.getD k default).o/\(al.getD k default).o<64
        ·rw [decide_eq_true o0]
         refine zG ⟨?_⟩
         refine zF ⟨?_⟩
         exact aV [1,3,22,23,24] (k+1) ⟨hkl,by rw [hst];simp only [okA,decide_eq_true_eq];omega⟩ (by omega) rfl
        ·rw [decide_eq_false o0]
         refine zG ⟨?_⟩
         by_cases o1:(al.getD k default).o = -1
         ·refine zF ⟨?_⟩
          exact aV [1,3,22,23,24] (k+1) ⟨hkl,by rw [hst];simp only [okA,decide_eq_true_eq];omega⟩ (by omega) rfl
         ·have hbad:okA fin.length (al.getD k default)=false:=by simp only [okA,decide_eq_false_iff_not];omega
          refine zF ⟨?_⟩
          refine ae ?_
          simp [bG,hd,gK hkl hbad]
       ·rw [decide_eq_false i0]
        refine zG ⟨?_⟩
        by_cases i1:(al.getD k default).i = -1
        ·refine zF ⟨?_⟩
         refine aX aG bz (zT (al.getD k default).o) ?_
         rintro _ rfl
         by_cases o0:0<=(al.getD k default).o/\(al.getD k default).o<64
         ·rw [decide_eq_true o0]
          refine zG ⟨?_⟩
          refine zF ⟨?_⟩
          exact aV [1,3,22,23,24] (k+1) ⟨hkl,by rw [hst];simp only [okA,decide_eq_true_eq];omega⟩ (by omega) rfl
         ·rw [decide_eq_false o0]
          refine zG ⟨?_⟩
          by_cases o1:(al.getD k default).o = -1
          ·refine zF ⟨?_⟩
           exact aV [1,3,22,23,24] (k+1) ⟨hkl,by rw [hst];simp only [okA,decide_eq_true_eq];omega⟩ (by omega) rfl
          ·have hbad:okA fin.length (al.getD k default)=false:=by simp only [okA,decide_eq_false_iff_not];omega
           refine zF ⟨?_⟩
           refine ae ?_
           simp [bG,hd,gK hkl hbad]
        ·have hbad:okA fin.length (al.getD k default)=false:=by simp only [okA,decide_eq_false_iff_not];omega
         refine zF ⟨?_⟩
         refine ae ?_
         simp [bG,hd,gK hkl hbad]
      ·have hbad:okA fin.length (al.getD k default)=false:=by simp only [okA,decide_eq_false_iff_not];omega
       refine zF ⟨?_⟩
       refine ae ?_
       simp [bG,hd,gK hkl hbad]
     ·have hbad:okA fin.length (al.getD k default)=false:=by simp only [okA,decide_eq_false_iff_not];omega
      refine zF ⟨?_⟩
      refine ae ?_
      simp [bG,hd,gK hkl hbad]
    ·have hbad:okA fin.length (al.getD k default)=false:=by simp only [okA,decide_eq_false_iff_not];omega
     refine zF ⟨?_⟩
     refine ae ?_
     simp [bG,hd,gK hkl hbad]
   ·have hbad:okA fin.length (al.getD k default)=false:=by simp only [okA,decide_eq_false_iff_not];omega
    refine zF ⟨?_⟩
    refine ae ?_
    simp [bG,hd,gK hkl hbad]
  ·obtain rfl:k=al.length:=by omega
   rw [ig] at hall
   refine zF ⟨?_⟩
   refine ae ?_
   simp [bG,hd,hall]
 ·have hd:okF fin al=false:=by simp only [okF,decide_eq_false hb,Bool.false_and]
  by_cases h1:1<=fin.length
  ·by_cases h2:fin.length<=2048
   ·have h3:¬ al.length<=8192:=fun h=>hb ⟨h1,h2,h⟩
    refine zF ⟨?_⟩
    refine ae ?_
    simp [bG,hd]
   ·refine zF ⟨?_⟩
    refine ae ?_
    simp [bG,hd]
  ·refine zF ⟨?_⟩
   refine ae ?_
   simp [bG,hd]
end Go.Proofs.Ytlbdmpjnmfmnfaa
end
