import Derived.Test.YteamkjblpglliaaClNet
import Derived.Test.YteamkjblpglliaaNet
import Derived.Test.YteamkjblpglliaaSlAny
import Derived.Test.YteamkjblpglliaaGrPlain
import Derived.Test.YteamkjblpglliaaFlCut
import Derived.Test.YteamkjblpglliaaClFits
section
set_option linter.unusedSimpArgs false
set_option linter.unusedVariables false
namespace Go.Proofs.Yteamkjblpglliaa
open Go.RowKit Go.SL
def lI (D:List Bool) (es:List Edge):Int:=(es.map fun e=>if nN D e then e.c else 0).sum
theorem Jn (D:List Bool) (es:List Edge):∀k,k<=es.length->nZ D es k=lI D (es.take k):=by
 intro k
 induction k with
 | zero=>intro _;rfl
 | succ k ih =>
  intro hk
  have hkl:k<es.length:=by omega
  rw [List.take_succ_eq_append_getElem hkl]
  simp only [nZ,lI,List.map_append,List.sum_append,List.map_cons,List.map_nil,List.sum_cons,List.sum_nil]
  rw [ih (by omega)]
  have:es.getD k default=es[k]:=by simp [hkl]
  rw [this]
  unfold lI
  omega
theorem SA (D:List Bool) (es:List Edge):nZ D es es.length=lI D es:=by rw [Jn D es _ (Nat.le_refl _),List.take_length]
def Edge.ren (n:Int) (e:Edge):Edge:=⟨n - 1 - e.f,n - 1 - e.t,e.c⟩
end Go.Proofs.Yteamkjblpglliaa
end
section
set_option linter.unusedSimpArgs false
set_option linter.unusedVariables false
namespace Go.Proofs.Yteamkjblpglliaa
open Go.RowKit Go.SL
def wS (w:List Int) (X:List Bool):Nat->Int
 | 0=>0
 | k+1=>wS w X k+if X.getD k false then w.getD k 0 else 0
def jr (w:List Int):Nat->Int
 | 0=>0
 | k+1=>jr w k+max 0 (w.getD k 0)
def dH (nd:List (List Nat)) (X:List Bool):Prop:=∀u,X.getD u false=true->∀j∈nd.getD u [],X.getD j false=true
structure mO (w:List Int) (nd:List (List Nat)) (S:List Bool):Prop where
 len:S.length=nd.length
 closed:dH nd S
 most:∀X:List Bool,X.length=nd.length->dH nd X->wS w X nd.length<=wS w S nd.length
 least:∀X:List Bool,X.length=nd.length->dH nd X->wS w X nd.length=wS w S nd.length->∀u:Nat,S.getD u false=true->X.getD u false=true
section
variable {w:List Int} {nd:List (List Nat)} {bad:List Bool} {S X:List Bool}
theorem CU (D:List Bool) (es fs:List Edge):lI D (es++fs)=lI D es+lI D fs:=by
 unfold lI;rw [List.map_append,List.sum_append]
theorem uG (hw:WOK w):∀k:Nat,0<=jr w k/\jr w k<=(k:Int)*2147483648
 | 0=>by simp [jr]
 | k+1=>by
  have ih:=uG hw k
  have:=hw k
  simp only [jr]
  omega
theorem zJ (w:List Int) (X:List Bool):∀k,wS w X k<=jr w k
 | 0=>by simp [jr,wS]
 | k+1=>by
  have ih:=zJ w X k
  simp only [jr,wS]
  split<;>omega
def oM (X:List Bool):List Bool:=X++[true,false]
theorem jC {n:Nat} (hl:X.length=n) (u:Nat):ins (oM X) u=if u<n then X.getD u false else decide (u=n):=by
 unfold ins oM
 rw [List.getD_eq_getElem?_getD]
 by_cases h:u<n
 ·rw [if_pos h,List.getElem?_append_left (by omega),List.getD_eq_getElem?_getD]
 ·rw [if_neg h,List.getElem?_append_right (by omega),hl]
  by_cases h2:u=n
  ·subst h2;simp
  ·by_cases h3:u=n+1
   ·subst h3;simp
   ·rw [List.getElem?_eq_none (by simp;omega)];simp [h2]
theorem DW {n:Nat} (hl:X.length=n):wH ((n:Int)+2) n ((n:Int)+1) (oM X):=by
 refine ⟨by simp [oM,hl],?_,?_⟩
 ·rw [Int.toNat_natCast,jC hl,if_neg (by omega)];simp
 ·rw [show ((n:Int)+1).toNat=n+1 by omega,jC hl,if_neg (by omega)];simp
theorem J4 {n:Nat} {D:List Bool} (h:wH ((n:Int)+2) n ((n:Int)+1) D):D=oM (D.take n):=by
 have hl:=h.len
 have h1:=h.src
 have h2:=h.snk
 rw [show ((n:Int)+1).toNat=n+1 by omega] at h2
 rw [Int.toNat_natCast] at h1
 have htl:(D.take n).length=n:=by rw [List.length_take];omega
 refine Dl (by simp [oM];omega) fun v=>?_
 rw [jC htl]
 by_cases hv:v<n
 ·rw [if_pos hv]
  unfold ins
  rw [List.getD_eq_getElem?_getD,List.getD_eq_getElem?_getD,List.getElem?_take_of_lt hv]
 ·rw [if_neg hv]
  by_cases h3:v=n
  ·subst h3;rw [h1];simp
  ·by_cases h4:v=n+1
   ·subst h4;rw [h2];simp
   ·unfold ins
    rw [List.getD_eq_getElem?_getD,List.getElem?_eq_none (by omega)];simp [h3]
theorem Gw {n:Nat} (hl:X.length=n) {e:Edge} (he:uO ((n:Int)+2) e):nN (oM X) e=(ins (oM X) e.f.toNat&&!ins (oM X) e.t.toNat):=En (by simp [oM,hl]) he
theorem Pg {n:Nat} (hl:X.length=n) (hw:WOK w):∀k,k<=n->lI (oM X) (iF n w k)=jr w k - wS w X k
 | 0,_=>by simp [lI,iF,jr,wS]
 | k+1,h=>by
  have ih:=Pg hl hw k (by omega)
  have hwk:=hw k
  rw [iF,CU,ih]
  simp only [jr,wS,qj]
  generalize w.getD k 0=x at hwk ⊢
  have hk:=jC hl k
  rw [if_pos (show k<n by omega)] at hk
  have hn:=jC hl n
  rw [if_neg (by omega),decide_eq_true rfl] at hn
  have hn1:=jC hl (n+1)
  rw [if_neg (by omega),decide_eq_false (by omega)] at hn1
  split
  ·rename_i hp
   have hc:=Gw hl (e:=⟨n,k,x⟩) ⟨by simp only;omega,by simp only;omega,by simp only;omega,by simp only;omega,by simp only;omega,by simp only;omega,by simp only;omega⟩
   simp only [Int.toNat_natCast] at hc
   rw [hn,hk,Bool.true_and] at hc
   simp only [lI,List.map_cons,List.map_nil,List.sum_cons,List.sum_nil,hc]
   cases X.getD k false<;>simp<;>omega
  ·split
   ·rename_i hm
    have hc:=Gw hl (e:=⟨k,(n:Int)+1,-x⟩) ⟨by simp only;omega,by simp only;omega,by simp only;omega,by simp only;omega,by simp only;omega,by simp only;omega,by simp only;omega⟩
    simp only [Int.toNat_natCast] at hc
    rw [show ((n:Int)+1).toNat=n+1 by omega,hn1,hk,Bool.not_false,Bool.and_true] at hc
    simp only [lI,List.map_cons,List.map_nil,List.sum_cons,List.sum_nil,hc]
    cases X.getD k false<;>simp<;>omega
   ·have:x=0:=by omega
    rw [this]
    simp [lI]
theorem JW (D:List Bool) (es:List Edge) (h0:∀e∈es,0<=e.c):0<=lI D es/\(∀e∈es,nN D e=true->e.c<=lI D es)/\((∀e∈es,nN D e=false)->lI D es=0):=by
 induction es with
 | nil=>simp [lI]
 | cons a es ih =>
  obtain ⟨i1,i2,i3⟩:=ih fun e he=>h0 e (by simp [he])
  have ha:=h0 a (by simp)
  have e:lI D (a::es)=(if nN D a then a.c else 0)+lI D es:=by simp [lI]
  rw [e]
  refine ⟨by split<;>omega,fun x hx hc=>?_,fun h=>?_⟩
  ·rcases List.mem_cons.1 hx with rfl|hx
   ·rw [if_pos hc];omega
   ·have:=i2 x hx hc
    split<;>omega
  ·rw [if_neg (by rw [h a (by simp)];decide),i3 fun x hx=>h x (by simp [hx])];rfl
theorem MS (g:Gr nd bad) (hl:X.length=nd.length):0<=lI (oM X) (iP nd nd.length)/\(dH nd X->lI (oM X) (iP nd nd.length)=0)/\(¬ dH nd X->1099511627776<=lI (oM X) (iP nd nd.length)):=by
 have hc:∀e∈iP nd nd.length,e.c=1099511627776:=fun e he=>by obtain ⟨i,j,_,_,_,rfl⟩:=mem_nEdges.1 he;rfl
 obtain ⟨h1,h2,h3⟩:=JW (oM X) (iP nd nd.length) fun e he=>by rw [hc e he];omega
 have cr:∀i j,i<nd.length->j∈nd.getD i []->j≠i->nN (oM X) ⟨i,j,1099511627776⟩=(X.getD i false&&!X.getD j false):=fun i j hi hj hne=>by
  have hjn:=g.lt i j hj
  rw [Gw hl ⟨by simp only;omega,by simp only;omega,by simp only;omega,by simp only;omega,by simp only;omega,by simp only;omega,by simp only;omega⟩]
  simp only [Int.toNat_natCast]
  rw [jC hl,jC hl,if_pos hi,if_pos hjn]
 refine ⟨h1,fun hcl=>h3 fun e he=>?_,fun hn=>?_⟩
 ·obtain ⟨i,j,hi,hj,hne,rfl⟩:=mem_nEdges.1 he
  rw [cr i j hi hj hne]
  cases hx:X.getD i false with
  | false=>rfl
  | true=>rw [hcl i hx j hj];rfl
 ·have:∃u j,X.getD u false=true/\j∈nd.getD u []/\X.getD j false=false:=by
   apply Classical.byContradiction
   intro hno
   refine hn fun u hu j hj=>?_
   cases hx:X.getD j false with
   | true=>rfl
   | false=>exact absurd ⟨u,j,hu,hj,hx⟩ hno
  obtain ⟨u,j,hu,hj,hx⟩:=this
  have hul:u<nd.length:=by
   rw [<- hl]
   apply Classical.byContradiction
   intro h
   rw [List.getD_eq_getElem?_getD,List.getElem?_eq_none (by omega)] at hu;cases hu
  have hne:j≠u:=fun e=>by rw [e,hu] at hx;cases hx
  have:=h2 ⟨u,j,1099511627776⟩ (mem_nEdges.2 ⟨u,j,hul,hj,hne,rfl⟩) (by rw [cr u j hul hj hne,hu,hx];rfl)
  exact this
theorem BX (g:Gr nd bad) (hw:WOK w) (hl:X.length=nd.length):nZ (oM X) (iM w nd) (iM w nd).length=jr w nd.length - wS w X nd.length+lI (oM X) (iP nd nd.length):=by
 rw [SA]
 unfold iM
 rw [CU,Pg hl hw _ (Nat.le_refl _)]
theorem I9 (g:Gr nd bad) (hw:WOK w) {fl:List Int} {set:List Bool} {value:Int} (h:Found ((nd.length:Int)+2) nd.length ((nd.length:Int)+1) (iM w nd) fl set value) :
  mO w nd (set.take nd.length)/\value=jr w nd.length - wS w (set.take nd.length) nd.length:=by
 have hsz:=g.size
 have hv:=Ij g hw
 have hD:=J4 h.cut
 have hsl:=h.cut.len
 have hl:(set.take nd.length).length=nd.length:=by rw [List.length_take];omega
 have hcap:=h.cap
 rw [hD,BX g hw hl] at hcap
 obtain ⟨n1,n2,n3⟩:=MS g hl
 have hpos:=uG hw nd.length
 have up:∀X:List Bool,X.length=nd.length->dH nd X->value<=jr w nd.length - wS w X nd.length:=fun X hX hc=>by
  have:=h.le_cap hv (DW hX)
  rw [BX g hw hX,(MS g hX).2.1 hc] at this
  omega
 have hcl:dH nd (set.take nd.length):=by
  apply Classical.byContradiction
  intro hn
  have h3:=n3 hn
  have h0:=up (List.replicate nd.length false) (by simp) (fun u hu=>by
   rw [List.getD_eq_getElem?_getD,List.getElem?_replicate] at hu
   split at hu<;>cases hu)
  have hz:∀k,wS w (List.replicate nd.length false) k=0:=by
   intro k
   induction k with
   | zero=>rfl
   | succ k ih =>
    simp only [wS,ih]
    have:(List.replicate nd.length false).getD k false=false:=by
     rw [List.getD_eq_getElem?_getD,List.getElem?_replicate];split<;>rfl
    rw [this];rfl
  rw [hz] at h0
  have:=zJ w (set.take nd.length) nd.length
  omega
 have hval:value=jr w nd.length - wS w (set.take nd.length) nd.length:=by rw [n2 hcl] at hcap;omega
 refine ⟨⟨hl,hcl,fun X hX hc=>by have:=up X hX hc;omega,fun X hX hc he u hu=>?_⟩,hval⟩
 have:=h.least (oM X) (DW hX) (by rw [BX g hw hX,(MS g hX).2.1 hc];omega) u (by
  rw [hD,jC hl]
  have hul:u<nd.length:=by
   rw [<- hl]
   apply Classical.byContradiction
   intro h
   rw [List.getD_eq_getElem?_getD,List.getElem?_eq_none (by omega)] at hu;cases hu
  rw [if_pos hul];exact hu)
 rw [jC hX] at this
 split at this
 ·exact this
 ·rename_i hnl
  rw [List.getD_eq_getElem?_getD,List.getElem?_eq_none (by rw [hl];omega)] at hu;cases hu
end
end Go.Proofs.Yteamkjblpglliaa
end
section
set_option linter.unusedSimpArgs false
set_option linter.unusedVariables false
namespace Go.Proofs.Yteamkjblpglliaa
open Go.RowKit Go.SL
end Go.Proofs.Yteamkjblpglliaa
end
section
set_option linter.unusedSimpArgs false
set_option linter.unusedVariables false
namespace Go.Proofs.Yteamkjblpglliaa
open Go.RowKit Go.SL
end Go.Proofs.Yteamkjblpglliaa
end
section
set_option linter.unusedSimpArgs false
set_option linter.unusedVariables false
namespace Go.Proofs.Yteamkjblpglliaa
open Go.RowKit Go.SL Go.HL
theorem callable {f:FuncId} {x} (h:bu Try.prog f=some x):uQ Try.prog f:=by
 unfold bu at h
 split at h
 ·rename_i fn hfn
  split at h
  ·rename_i c rs hb _
   split at h
   ·cases h
   ·rename_i hn;exact ⟨fn,hfn,by rw [hb];rfl,by simpa using hn⟩
  ·cases h
 ·cases h
theorem wI {F:Nat->Prop} {w w':World} {K:HV->Prop} {v:HV} {rv:Value} (hk:K v) (hb:Below w.heap.size w w') (ho:∀ (F:Nat->Prop) (h:Hp),OW F h dN [v] [rv] []):Gives F w K (.returned rv) w' :=
 ⟨rv,v,[],rfl,hk,ho _ _,by simp,by simp,hb⟩
def aeV (n s t:Nat) (es:List Edge) (r:HV):Prop:=∃ (fl:List Int) (set:List Bool) (value:Int),r=.tup [.int .i64 value,.osl 1 es.length (HL.ints fl),.int .i64 0]/\Found n s t es fl set value
theorem PY (n s t:Nat) (es:List Edge) (hv:VNet n s t es):HT Try.prog 72 [.int .i64 n,Es es,.int .i64 s,.int .i64 t] (aeV n s t es):=by
 refine ⟨callable aez,fun w rargs F hF ho=>?_⟩
 obtain ⟨_,_,rfl,o1,q2⟩:=gX ho
 obtain ⟨_,_,rfl,o2,q3⟩:=gX q2
 obtain ⟨_,_,rfl,o3,q4⟩:=gX q3
 obtain ⟨_,_,rfl,o4,q5⟩:=gX q4
 obtain rfl:=xg q5
 obtain ⟨a,cap,rfl,hr⟩:=uV hF o2
 obtain rfl:=of_int o1
 obtain rfl:=of_int o3
 obtain rfl:=of_int o4
 refine (Oi n a _ cap es s t w hr rfl hv).mono ?_
 rintro e w' ⟨fl,set,value,a',cap',rfl,hf,hS⟩
 obtain ⟨fs,h1,h2,h3⟩:=H7 hS (i:=0) rfl (cs:=HL.ints fl) (fun F h=>MH fl)
 refine ⟨_,.tup [.int .i64 value,.osl 1 es.length (HL.ints fl),.int .i64 0],fs,rfl,⟨fl,set,value,rfl,hf⟩,?_,h2,h3,hS.below⟩
 have h4:=fun G=>OW.tup (F:=G) (h:=w'.heap) (R:=dN) (cs:=[.int .i64 value,.osl 1 es.length (HL.ints fl),.int .i64 0]) (.int ((h1 G).cons1 (.int .nil))) .nil
 simpa using h4 _
def aet (n s t:Nat) (es:List Edge) (r:HV):Prop:=∃ (fl:List Int) (set:List Bool) (value:Int),r=.tup [.osl 1 n (HL.bools set),.int .i64 0]/\Found n s t es fl set value
theorem Tz (n s t:Nat) (es:List Edge) (hv:VNet n s t es):HT Try.prog 73 [.int .i64 n,Es es,.int .i64 s,.int .i64 t] (aet n s t es):=by
 refine ⟨callable aff,fun w rargs F hF ho=>?_⟩
 obtain ⟨_,_,rfl,o1,q2⟩:=gX ho
 obtain ⟨_,_,rfl,o2,q3⟩:=gX q2
 obtain ⟨_,_,rfl,o3,q4⟩:=gX q3
 obtain ⟨_,_,rfl,o4,q5⟩:=gX q4
 obtain rfl:=xg q5
 obtain ⟨a,cap,rfl,hr⟩:=uV hF o2
 obtain rfl:=of_int o1
 obtain rfl:=of_int o3
 obtain rfl:=of_int o4
 refine (OO n a _ cap es s t w hr rfl hv).mono ?_
 rintro e w' ⟨fl,set,value,a',cap',rfl,hf,hS⟩
 obtain ⟨fs,h1,h2,h3⟩:=H7 hS (i:=0) rfl (cs:=HL.bools set) (fun F h=>IR set)
 refine ⟨_,.tup [.osl 1 n (HL.bools set),.int .i64 0],fs,rfl,⟨fl,set,value,rfl,hf⟩,?_,h2,h3,hS.below⟩
 have h4:=fun G=>OW.tup (F:=G) (h:=w'.heap) (R:=dN) (cs:=[.osl 1 n (HL.bools set),.int .i64 0]) ((h1 G).cons1 (.int .nil)) .nil
 simpa using h4 _
theorem Dw (n:Nat) (es:List Edge) (s t:Nat) (fl:List Int) (hv:VNet n s t es) (hl:fl.length=es.length):HT Try.prog 16 [.int .i64 n,Es es,.int .i64 s,.int .i64 t,I fl] (fun r=>∃x y,r=.tup [.int .i64 x,.int .i64 y]/\CheckR n s t es fl x y):=by
 refine ⟨callable YL,fun w rargs F hF ho=>?_⟩
 obtain ⟨_,_,rfl,o1,q2⟩:=gX ho
 obtain ⟨_,_,rfl,o2,q3⟩:=gX q2
 obtain ⟨_,_,rfl,o3,q4⟩:=gX q3
 obtain ⟨_,_,rfl,o4,q5⟩:=gX q4
 obtain ⟨_,_,rfl,o5,q6⟩:=gX q5
 obtain rfl:=xg q6
 obtain rfl:=of_int o1
 obtain rfl:=of_int o3
 obtain rfl:=of_int o4
 obtain ⟨a,cap,rfl,hr⟩:=uV hF o2
 obtain ⟨a2,cap2,rfl,hr2⟩:=OT hF o5
 have hm:es.length<=9223372036854775807:=by have:=hv.len;omega
 refine (IK n a _ cap es s t a2 _ cap2 fl w hr rfl hm hr2 rfl (by omega) hv hl.symm).mono ?_
 rintro e w' ⟨x,y,⟨rfl,hb⟩,hR⟩
 refine wI ⟨x,y,rfl,hR⟩ hb fun F h=>?_
 have:=OW.tup (F:=F) (h:=h) (R:=dN) (cs:=[.int .i64 x,.int .i64 y]) (.int (.int .nil)) .nil
 simpa using this
end Go.Proofs.Yteamkjblpglliaa
end
section
set_option linter.unusedSimpArgs false
set_option linter.unusedVariables false
namespace Go.Proofs.Yteamkjblpglliaa
open Go.RowKit Go.SL Go.HL
theorem He (w:List Int) (set:List Bool) (n:Nat):∀k,k<=n->wS w (set.take n) k=wS w set k
 | 0,_=>rfl
 | k+1,h=>by
  have ih:=He w set n k (by omega)
  simp only [wS,ih]
  rw [List.getD_eq_getElem?_getD,List.getElem?_take_of_lt (by omega),<- List.getD_eq_getElem?_getD]
theorem sW {w:List Int} (hw:WOK w) (X:List Bool):∀k:Nat,-((k:Int)*2147483648)<=wS w X k/\wS w X k<=(k:Int)*2147483648
 | 0=>by simp [wS]
 | k+1=>by
  have ih:=sW hw X k
  have:=hw k
  simp only [wS]
  split<;>omega
theorem nU {w:List Int} {nd:List (List Nat)} {bad:List Bool} (g:Gr nd bad) (hw:WOK w):VNet ((nd.length+2:Nat):Int) (nd.length:Nat) ((nd.length+1:Nat):Int) (iM w nd):=Ij g hw
def O7 (w:List Int) (nd:List (List Nat)) (r:HV):Prop:=∃fl set value,r=.tup [.osl 1 nd.length (HL.bools (set.take nd.length)),.int .i64 (wS w (set.take nd.length) nd.length),.osl 1 (iM w nd).length (HL.ints fl),.int .i64 0] /\
 mO w nd (set.take nd.length)/\Found ((nd.length:Int)+2) nd.length ((nd.length:Int)+1) (iM w nd) fl set value/\value=jr w nd.length - wS w (set.take nd.length) nd.length
set_option maxHeartbeats 8000000 in
theorem Ia (w:List Int) (nd:List (List Nat)) (bad:List Bool) (g:Gr nd bad) (hw:WOK w) (hl:w.length=nd.length):HT Try.prog 57 [I w,Gs (nd.map nl)] (O7 w nd):=by
 have hsz:=g.size
 have hnl:(nd.map nl).length=nd.length:=by simp
 have hNl:=jX g w
 have hN2:nd.length*nd.length<=256*256:=Nat.mul_le_mul hsz hsz
 have hv:=nU g hw
 have hnet:=xm w nd bad g hw hl
 have hmx:=PY (nd.length+2) nd.length (nd.length+1) (iM w nd) hv
 have hct:=Tz (nd.length+2) nd.length (nd.length+1) (iM w nd) hv
 simp only [Gs,I] at hnet
 rw [hnl,hl] at hnet
 simp only [Es,Int.natCast_add,Int.cast_ofNat_Int] at hmx hct
 refine HT.of rfl aeM (Nat.le_of_ble_eq_true rfl) ?_
 unfold c57
 simp only [Gs,I,aP,Nat.reduceAdd]
 unfold O7
 rw [hnl,hl]
 repeat (first|refine ah ?_|refine ag ?_|refine ak ?_|refine ae ?_|refine eU rfl (by rfl) gU ?_)
 refine bf aJ dI (hnet) ?_
 rintro _ rfl
 refine ⟨dE,_,_,_,_,_,dw,(by decide),aQ,?_⟩
 repeat (first|refine ah ?_|refine ag ?_|refine aY ?_|refine bz ?_|refine bU ?_|refine aF ?_|refine au ?_|refine ak ?_|refine ae ?_|refine aA ?_)
 refine bf aJ dI (hmx) ?_
 rintro _ ⟨fl,set1,v1,rfl,hF1⟩
 refine ⟨dE,_,_,_,_,_,dw,(by decide),aQ,?_⟩
 repeat (first|refine ah ?_|refine ag ?_|refine aW ?_|refine bz ?_|refine bU ?_|refine au ?_|refine ak ?_|refine ae ?_|refine aA ?_)
 refine bf aJ dI (hct) ?_
 rintro _ ⟨fl2,set,v,rfl,hF⟩
 refine ⟨dE,_,_,_,_,_,dw,(by decide),aQ,?_⟩
 have hv1:=hF1.val_eq hv hF
 have hs1:=hF1.set_eq hv hF
 subst hv1 hs1
 have hsl:=hF1.cut.len
 have hsl2:set1.length=nd.length+2:=by omega
 obtain ⟨hM,hval⟩:=I9 (w:=w) g hw (fl:=fl) (set:=set1) (value:=v1) hF1
 repeat (first|refine ah ?_|refine ag ?_|refine aW ?_|refine bU ?_|refine aF ?_|refine au ?_|refine ak ?_|refine ae ?_|refine aB ?_|refine aA ?_)
 refine bD [10,12,14,15,53,54,55] (fun i:Nat=>i<=nd.length)
  (fun i=>⟨[(10,.int .i64 nd.length),(12,.ref 0 [] 1 0 (iM w nd).length),(14,.ref 1 [] 1 0 (nd.length+2)),(15,.int .i64 (wS w set1 i)),(53,.sl nd.length (HL.ints w)),(54,.int .i64 nd.length),(55,.int .i64 i)],[(0,.osl 1 (iM w nd).length (HL.ints fl)),(1,.osl 1 (nd.length+2) (HL.bools set1))],2⟩)
  (fun i=>nd.length - i) 0 (by omega) rfl ?_
 rintro i hi
 have hbd:=sW hw set1 i
 by_cases hin:i<nd.length
 ·have hwi:=hw i
  have hnx:wS w set1 (i+1)=wS w set1 i+if set1.getD i false then w.getD i 0 else 0:=rfl
  obtain ⟨x,hx⟩:∃x,w.getD i 0=x:=⟨_,rfl⟩
  rw [hx] at hwi hnx
  cases hb:set1.getD i false with
  | true =>
   rw [hb,if_pos rfl] at hnx
   repeat (first|refine ah ?_|refine aN ?_|refine bY ?_|refine bK (by rfl) aT (by (try simp (disch:=omega) only [go_sem,hb,hx,hnx]);try rfl) ?_|refine gJ (by rfl) dm (by (try simp (disch:=omega) only [go_sem,reduceIte,Nat.reduceEqDiff,Nat.reduceAdd,Nat.reduceMul,hb,hx,hnx]);try rfl) aT (by (try simp (disch:=omega) only [go_sem,hb,hx,hnx]);try rfl) fP ?_|refine ag ?_|refine az ?_|refine di (by rfl) (by rfl) (by (try simp (disch:=omega) only [go_sem,Int.reduceAdd,Int.reduceSub,Int.reduceMul,hb,hx,hnx]);try rfl) ?_|refine ax ?_|refine ak ?_|refine ae ?_|refine aB ?_|refine dh ?_|refine aA ?_)
   exact bJ [10,12,14,15,53,54,55] (i+1) hin (by omega) (by rw [hnx];rfl)
  | false =>
   rw [hb,if_neg (by decide),Int.add_zero] at hnx
   repeat (first|refine ah ?_|refine aN ?_|refine bY ?_|refine bK (by rfl) aT (by (try simp (disch:=omega) only [go_sem,hb,hx,hnx]);try rfl) ?_|refine gJ (by rfl) dm (by (try simp (disch:=omega) only [go_sem,reduceIte,Nat.reduceEqDiff,Nat.reduceAdd,Nat.reduceMul,hb,hx,hnx]);try rfl) aT (by (try simp (disch:=omega) only [go_sem,hb,hx,hnx]);try rfl) fP ?_|refine ag ?_|refine az ?_|refine di (by rfl) (by rfl) (by (try simp (disch:=omega) only [go_sem,Int.reduceAdd,Int.reduceSub,Int.reduceMul,hb,hx,hnx]);try rfl) ?_|refine ax ?_|refine au ?_|refine ak ?_|refine ae ?_|refine aB ?_|refine dh ?_|refine aA ?_)
   exact bJ [10,12,14,15,53,54,55] (i+1) hin (by omega) (by rw [hnx];rfl)
 ·obtain rfl:i=nd.length:=by omega
  have htk:(HL.bools set1).take (nd.length*1)=HL.bools (set1.take nd.length):=by simp [HL.bools,List.map_take]
  repeat (first|refine ah ?_|refine ag ?_|refine az ?_|refine aO ?_|refine au ?_|refine ak ?_|refine ae ?_|refine Kz (by rfl) (by rfl) (by rfl) (by omega) bW gU ?_)
  refine Fj 4 [4,5,6,7] (⟨[(4,.ref 0 [] 1 0 nd.length),(5,.int .i64 (wS w set1 nd.length)),(6,.ref 1 [] 1 0 (iM w nd).length),(7,.int .i64 0)],[(0,.osl 1 nd.length (HL.bools (set1.take nd.length))),(1,.osl 1 (iM w nd).length (HL.ints fl))],2⟩:St) rfl rfl (by omega) (HL.bools_flat _) (by decide) (by rw [htk];rfl) ?_
  refine ay ?_
  exact ⟨fl,set1,v1,by rw [He w set1 _ _ (Nat.le_refl _)];rfl,hM,hF1,hval⟩
end Go.Proofs.Yteamkjblpglliaa
end
section
set_option linter.unusedSimpArgs false
set_option linter.unusedVariables false
namespace Go.Proofs.Yteamkjblpglliaa
open Go.RowKit Go.SL Go.HL
set_option maxHeartbeats 4000000 in
theorem OL (l:List Int) (f:FuncId) (p:Int->Bool) (hl:l.length<=9223372036854775807) (hp:∀x∈l,HT Try.prog f [.int .i64 x] (fun r=>r=.bool (p x))) :
  HT Try.prog 70 [I l,.fn f []] (fun r=>∃e:Int,r=.int .i64 e /\ -1<=e/\(0<=e <-> l.any p=true)):=by
 refine HT.of rfl aa3 (Nat.le_of_ble_eq_true rfl) ?_
 unfold c70
 simp only [I,aP,Nat.reduceAdd]
 repeat (first|refine ah ?_|refine ag ?_|refine aF ?_|refine ak ?_|refine ae ?_|refine aB ?_)
 refine bD [0,1,7,8] (fun i:Nat=>i<=l.length/\(l.take i).any p=false) (fun i=>⟨[(0,.sl l.length (HL.ints l)),(1,.fn f []),(7,.int .i64 l.length),(8,.int .i64 i)],[],0⟩) (fun i=>l.length - i) 0 ⟨by omega,rfl⟩ rfl ?_
 rintro i ⟨hi,hno⟩
 by_cases hil:i<l.length
 ·obtain ⟨x,hx⟩:∃x,l.getD i 0=x:=⟨_,rfl⟩
  have hst:=any_take_succ l p 0 hil
  rw [hx,hno,Bool.false_or] at hst
  repeat (first|refine ah ?_|refine aN ?_|refine bK (by rfl) aT (by (try simp (disch:=omega) only [go_sem,hx]);try rfl) ?_|refine ag ?_|refine az ?_|refine ax ?_|refine ak ?_|refine ae ?_|refine aB ?_|refine aA ?_)
  refine BI (by rfl) aJ dI (hp x (hx▸lX l 0 hil)) ?_
  rintro _ rfl
  refine ⟨dE,_,_,_,_,_,dw,(by decide),aQ,?_⟩
  cases hpx:p x with
  | true =>
   repeat (first|refine ah ?_|refine ag ?_|refine ax ?_|refine ak ?_|refine ae ?_)
   refine ay ?_
   exact ⟨i,rfl,by omega,by rw [jO l p (hst.trans hpx)];simp⟩
  | false =>
   repeat (first|refine ah ?_|refine ag ?_|refine bz ?_|refine au ?_|refine ae ?_|refine dh ?_|refine aA ?_)
   exact bJ [0,1,7,8] (i+1) ⟨hil,hst.trans hpx⟩ (by omega) rfl
 ·obtain rfl:i=l.length:=by omega
  rw [List.take_length] at hno
  repeat (first|refine ah ?_|refine ag ?_|refine az ?_|refine aO ?_|refine au ?_|refine ak ?_|refine ae ?_)
  refine ay ?_
  exact ⟨-1,rfl,by omega,by rw [hno];simp⟩
theorem G8 (l:List Int) (f:FuncId) (p:Int->Bool) (hl:l.length<=9223372036854775807) (hp:∀x∈l,HT Try.prog f [.int .i64 x] (fun r=>r=.bool (p x))) :
  HT Try.prog 52 [I l,.fn f []] (fun r=>r=.bool (l.any p)):=by
 refine HT.of rfl adh (Nat.le_of_ble_eq_true rfl) ?_
 unfold c52
 simp only [I,aP,Nat.reduceAdd]
 repeat (first|refine ah ?_|refine ag ?_|refine ak ?_|refine ae ?_)
 refine bf aJ dI (OL l f p hl hp) ?_
 rintro _ ⟨e,rfl,he,h⟩
 refine ⟨dE,_,_,_,_,_,dw,(by decide),aQ,?_⟩
 by_cases h0:0<=e
 ·repeat (first|refine ah ?_|refine ag ?_|refine dG ?_)
  refine ay ?_
  rw [h.1 h0];rfl
 ·have h1:l.any p=false:=by
   cases hb:l.any p with
   | false=>rfl
   | true=>exact absurd (h.2 hb) h0
  repeat (first|refine ah ?_|refine ag ?_|refine dG ?_)
  refine ay ?_
  rw [h1];rfl
structure Pb (W C:List Int) (nd:List (List Nat)) (B:Int):Prop where
 lw:W.length=nd.length
 lc:C.length=nd.length
 w:∀i,0<=W.getD i 0/\W.getD i 0<=1048576
 c:∀i,0<=C.getD i 0/\C.getD i 0<=1048576
 b:0<=B/\B<=268435456
 g:Gr nd (List.replicate nd.length false)
def jD (W C:List Int) (nd:List (List Nat)) (B:Int):List HV:=[I W,I C,Gs (nd.map nl),.int .i64 B]
theorem jK (n l h:Int):HT Try.prog 41 [.int .i64 n,.int .i64 l,.int .i64 h] (fun r=>r=.bool (decide (l<=n)&&decide (n<=h))):=by
 refine HT.of rfl aen (Nat.le_of_ble_eq_true rfl) ?_
 unfold c41
 simp only [aP,Nat.reduceAdd]
 by_cases h1:l<=n
 ·by_cases h2:n<=h
  ·repeat (first|refine ah ?_|refine aG ?_|refine ag ?_|refine aK ?_|refine ak ?_|refine ae ?_|refine dU ?_)
   refine ay ?_
   simp [dP,h1,h2]
  ·repeat (first|refine ah ?_|refine aG ?_|refine ag ?_|refine aK ?_|refine ak ?_|refine ae ?_|refine dU ?_)
   refine ay ?_
   simp [dP,h1,h2]
 ·repeat (first|refine ah ?_|refine bZ ?_|refine ag ?_|refine aI ?_|refine ak ?_|refine ae ?_|refine dU ?_)
  refine ay ?_
  simp [dP,h1]
theorem yg (n:Int):HT Try.prog 56 [.int .i64 n] (fun r=>r=.bool (!(decide (0<=n)&&decide (n<=1048576)))):=by
 refine HT.of rfl aeS (Nat.le_of_ble_eq_true rfl) ?_
 unfold c56
 simp only [aP,Nat.reduceAdd]
 repeat (first|refine ah ?_|refine ag ?_|refine ak ?_|refine ae ?_)
 refine bf aJ dI (jK n 0 1048576) ?_
 rintro _ rfl
 refine ⟨dE,_,_,_,_,_,dw,(by decide),aQ,?_⟩
 repeat (first|refine ah ?_|refine ag ?_|refine xG (by rfl) (by (try simp only [go_sem,reduceIte]);try rfl) ?_)
 refine ay ?_
 rfl
theorem AO (a b:Int) (hb:0<b) (h1 : -1000000000000000000<=a) (h2:a<=1000000000000000000) : -1000000000000000000<=a / b/\a / b<=1000000000000000000:=by
 constructor
 ·refine (Int.le_ediv_iff_mul_le hb).2 ?_
  have : -1000000000000000000*b <= -1000000000000000000*1:=Int.mul_le_mul_of_nonpos_left (by omega) (by omega)
  omega
 ·rcases Int.le_total 0 a with h|h
  ·exact Int.le_trans (Int.ediv_le_self b h) h2
  ·have:=Int.ediv_le_ediv hb h
   rw [Int.zero_ediv] at this
   omega
theorem Bj (a b:Int) (hb:0<b) (hb2:b<=1048576) (h1 : -1000000000000000000<=a) (h2:a<=1000000000000000000):HT Try.prog 47 [.int .i64 a,.int .i64 b] (fun r=>r=.int .i64 (a / b)):=by
 refine HT.of rfl adV (Nat.le_of_ble_eq_true rfl) ?_
 unfold c47
 simp only [aP,Nat.reduceAdd]
 have hbd:=AO a b hb h1 h2
 have hm:=Int.emod_nonneg a (show b≠0 by omega)
 have hm2:=Int.emod_lt_of_pos a hb
 by_cases hn:a.tmod b<0
 ·have hq:a.tdiv b=a / b+1:=by
   rw [Int.tdiv_eq_ediv]
   split
   ·rename_i h
    exfalso
    rcases h with h|h
    ·rw [Int.tmod_eq_emod_of_nonneg h] at hn;omega
    ·have:a.tmod b=0:=Int.tmod_eq_zero_of_dvd h
     omega
   ·rw [Int.sign_eq_one_of_pos hb]
  have e:a / b+1 - 1=a / b:=by omega
  repeat (first|refine ah ?_|refine ag ?_|refine az ?_|refine ax ?_|refine ak ?_|refine ae ?_|refine ik (by rfl) (by rfl) (by (try simp (disch:=omega) only [go_sem,Int.reduceAdd,Int.reduceSub,Int.reduceMul,hq,e]);try rfl) ?_|refine wF (by rfl) (by rfl) (by omega) (by (try simp (disch:=omega) only [go_sem,Int.reduceAdd,Int.reduceSub,Int.reduceMul,hq,e]);try rfl) ?_|refine Ac (by rfl) (by rfl) (by omega) (by (try simp (disch:=omega) only [go_sem,Int.reduceAdd,Int.reduceSub,Int.reduceMul,hq,e]);try rfl) ?_)
  refine ay ?_
  rfl
 ·have hq:a.tdiv b=a / b:=by
   rw [Int.tdiv_eq_ediv]
   split
   ·exact Int.add_zero _
   ·rename_i h
    exfalso
    have h3:¬ 0<=a:=fun x=>h (.inl x)
    have h4:a.tmod b=a % b - b:=by
     rw [Int.tmod_eq_emod,if_neg h,Int.natAbs_of_nonneg (by omega)]
    omega
  repeat (first|refine ah ?_|refine ag ?_|refine az ?_|refine au ?_|refine ak ?_|refine ae ?_|refine aA ?_|refine wF (by rfl) (by rfl) (by omega) (by (try simp (disch:=omega) only [go_sem,Int.reduceAdd,Int.reduceSub,Int.reduceMul,hq]);try rfl) ?_|refine Ac (by rfl) (by rfl) (by omega) (by (try simp (disch:=omega) only [go_sem,Int.reduceAdd,Int.reduceSub,Int.reduceMul,hq]);try rfl) ?_)
  refine ay ?_
  rfl
theorem yO (a b:Int) (hb:0<b) (hb2:b<=1048576) (h1 : -1000000000000000000<=a) (h2:a<=1000000000000000000):HT Try.prog 17 [.int .i64 a,.int .i64 b] (fun r=>r=.int .i64 (a / b)):=by
 refine HT.of rfl aeP (Nat.le_of_ble_eq_true rfl) ?_
 unfold c17
 simp only [aP,Nat.reduceAdd]
 by_cases h0:a<0
 ·have hq:(0 - a+b - 1).tdiv b = -(a / b):=by
   rw [Int.tdiv_eq_ediv_of_nonneg (by omega)]
   have h3:=Int.mul_ediv_add_emod a b
   have h4:=Int.emod_nonneg a (show b≠0 by omega)
   have h5:=Int.emod_lt_of_pos a hb
   have e:0 - a+b - 1=(b - 1 - a % b)+b*(-(a / b)):=by
    have:b*(-(a / b)) = -(b*(a / b)):=Int.mul_neg _ _
    omega
   rw [e,Int.add_mul_ediv_left _ _ (by omega),Int.ediv_eq_zero_of_lt (by omega) (by omega)]
   omega
  have hbd:=AO a b hb h1 h2
  have e2:0 - -(a / b)=a / b:=by omega
  repeat (first|refine ah ?_|refine ag ?_|refine az ?_|refine di (by rfl) (by rfl) (by (try simp (disch:=omega) only [go_sem,Int.reduceAdd,Int.reduceSub,Int.reduceMul,hq,e2]);try rfl) ?_|refine ax ?_|refine ak ?_|refine ae ?_|refine ik (by rfl) (by rfl) (by (try simp (disch:=omega) only [go_sem,Int.reduceAdd,Int.reduceSub,Int.reduceMul,hq,e2]);try rfl) ?_|refine wF (by rfl) (by rfl) (by omega) (by (try simp (disch:=omega) only [go_sem,Int.reduceAdd,Int.reduceSub,Int.reduceMul,hq,e2]);try rfl) ?_|refine Df (by rfl) (by (try simp (disch:=omega) only [go_sem,Int.reduceAdd,Int.reduceSub,Int.reduceMul,hq,e2]);try rfl) ?_)
  refine ay ?_
  rfl
 ·have hq:a.tdiv b=a / b:=Int.tdiv_eq_ediv_of_nonneg (by omega)
  have hbd:=AO a b hb h1 h2
  repeat (first|refine ah ?_|refine ag ?_|refine az ?_|refine au ?_|refine ak ?_|refine ae ?_|refine aA ?_|refine wF (by rfl) (by rfl) (by omega) (by (try simp (disch:=omega) only [go_sem,Int.reduceAdd,Int.reduceSub,Int.reduceMul,hq]);try rfl) ?_)
  refine ay ?_
  rfl
theorem fD (l:List Int) (set:List Bool) (hl:WOK l) (hls:set.length<=l.length) (hn:set.length<=100000):HT Try.prog 42 [I l,Bl set] (fun r=>r=.int .i64 (wS l set set.length)):=by
 refine HT.of rfl afk (Nat.le_of_ble_eq_true rfl) ?_
 unfold c42
 simp only [I,Bl,aP,Nat.reduceAdd]
 repeat (first|refine ah ?_|refine ag ?_|refine aF ?_|refine ak ?_|refine ae ?_|refine aB ?_)
 refine bD [0,5,8,9,10] (fun i:Nat=>i<=set.length)
  (fun i=>⟨[(0,.sl l.length (HL.ints l)),(5,.int .i64 (wS l set i)),(8,.sl set.length (HL.bools set)),(9,.int .i64 set.length),(10,.int .i64 i)],[],0⟩) (fun i=>set.length - i) 0 (by omega) rfl ?_
 intro i hi
 by_cases hil:i<set.length
 ·have hbd:=sW hl set i
  have hx:=hl i
  have hnx:wS l set (i+1)=wS l set i+if set.getD i false then l.getD i 0 else 0:=rfl
  obtain ⟨x,hxe⟩:∃x,l.getD i 0=x:=⟨_,rfl⟩
  rw [hxe] at hx hnx
  cases hb:set.getD i false with
  | true =>
   rw [hb,if_pos rfl] at hnx
   repeat (first|refine ah ?_|refine aN ?_|refine bK (by rfl) aT (by (try simp (disch:=omega) only [go_sem,hb,hxe]);try rfl) ?_|refine ag ?_|refine az ?_|refine di (by rfl) (by rfl) (by (try simp (disch:=omega) only [go_sem,Int.reduceAdd,Int.reduceSub,Int.reduceMul,hb,hxe]);try rfl) ?_|refine ax ?_|refine ak ?_|refine ae ?_|refine aB ?_|refine dh ?_|refine aA ?_)
   exact bJ [0,5,8,9,10] (i+1) hil (by omega) (by rw [hnx];rfl)
  | false =>
   rw [hb,if_neg (by decide),Int.add_zero] at hnx
   repeat (first|refine ah ?_|refine aN ?_|refine bK (by rfl) aT (by (try simp (disch:=omega) only [go_sem,hb]);try rfl) ?_|refine ag ?_|refine az ?_|refine di (by rfl) (by rfl) (by (try simp (disch:=omega) only [go_sem,Int.reduceAdd,Int.reduceSub,Int.reduceMul,hb]);try rfl) ?_|refine ax ?_|refine au ?_|refine ak ?_|refine ae ?_|refine aB ?_|refine dh ?_|refine aA ?_)
   exact bJ [0,5,8,9,10] (i+1) hil (by omega) (by rw [hnx];rfl)
 ·obtain rfl:i=set.length:=by omega
  repeat (first|refine ah ?_|refine ag ?_|refine az ?_|refine aO ?_|refine au ?_|refine ak ?_|refine ae ?_)
  refine ay ?_
  rfl
end Go.Proofs.Yteamkjblpglliaa
end
