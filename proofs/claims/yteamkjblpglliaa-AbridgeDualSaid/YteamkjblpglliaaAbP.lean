import Derived.Test.YteamkjblpglliaaAbE
import Derived.Test.YteamkjblpglliaaAbO
import Derived.Test.YteamkjblpglliaaAbN
import Derived.Test.YteamkjblpglliaaHl5
import Derived.Test.YteamkjblpglliaaAbB
import Derived.Test.YteamkjblpglliaaFlChk
import Derived.Test.YteamkjblpglliaaAbG
import Derived.Test.YteamkjblpglliaaHlRo
section
set_option linter.unusedSimpArgs false
set_option linter.unusedVariables false
namespace Go.Proofs.Yteamkjblpglliaa
open Go.RowKit Go.SL Go.HL
theorem ND {W C:List Int} {nd:List (List Nat)} {B num den:Int} {S X:List Bool} (hlw:W.length=nd.length) (hm:Mul num den) (hS:mO (gB W C num den) nd S) (hX:Sel C nd B X):wS W X nd.length<=oh W C nd B num den S:=by
 have h1:=hS.most X hX.len hX.closed
 rw [uu _ _ _ _ _ _ (by omega)] at h1
 have h2:num*wS C X nd.length<=num*B:=Int.mul_le_mul_of_nonneg_left hX.cost hm.1.1
 refine (Int.le_ediv_iff_mul_le (by have:=hm.2.1;omega)).2 ?_
 rw [Int.mul_comm];omega
theorem Lst.ge {W C:List Int} {nd:List (List Nat)} {B:Int} {s:Se} (h:Lst W C nd B s) (hlw:W.length=nd.length) {X:List Bool} (hX:Sel C nd B X):wS W X nd.length<=s.value:=by
 rw [h.val];exact ND hlw h.mul h.max hX
def FV (W C:List Int) (n:Nat) (s:Se) (b:Bool):Sn:=⟨s.best,wS W s.best n,wS C s.best n,s.num,s.den,s.flow,s.value,b⟩
theorem GG {W C:List Int} {n:Nat} {s:Se} {b:Bool} (h:s.best.length=n):Ai (FV W C n s b)=Gj W C n s b:=by
 unfold Ai FV Gj Bl I;rw [h]
theorem Lst.bound {W C:List Int} {nd:List (List Nat)} {bad:List Bool} {B:Int} {s:Se} (g:Gr nd bad) (h:Lst W C nd B s) {x y:Int} (hB:BoundR (gB W C s.num s.den) nd s.flow x y):y=0/\x=wS (gB W C s.num s.den) s.set nd.length:=by
 obtain ⟨set,value,hD,hset⟩:=h.dual
 obtain ⟨h1,h2⟩:=yP g h.wok hD.found.flow hB
 refine ⟨h1,?_⟩
 have h3:=hD.found.val
 have h4:=hD.val
 rw [hset]
 have:((nd.length:Int)).toNat=nd.length:=by omega
 rw [this] at h3
 omega
theorem SolS.check {W C:List Int} {nd:List (List Nat)} {B steps:Int} {s:Se} {b:Bool} {bad:List Bool} (g:Gr nd bad) (h:SolS W C nd B steps s b) {e:Int} (he:SnE W C nd B (FV W C nd.length s b) e):e=0:=by
 have hA:Qe W C nd B (FV W C nd.length s b):=⟨h.sel,rfl,rfl,h.lst.mul,h.lst.wok⟩
 rcases he with ⟨hn,_⟩|⟨_,x,y,hB,hv⟩
 ·exact absurd hA hn
 ·obtain ⟨rfl,rfl⟩:=h.lst.bound g hB
  rcases hv with ⟨_,_,h0⟩|⟨hn,_⟩
  ·exact h0
  ·exact absurd ⟨rfl,h.lst.val.symm⟩ hn
def Nb:List Int:=[5,4,3]
def LZ:List Int:=[4,3,2]
def ndEx:List (List Nat):=[[2],[],[]]
theorem pbEx:Pb Nb LZ ndEx 5:=by
 refine ⟨rfl,rfl,fun i=>?_,fun i=>?_,by decide,⟨by decide,by decide,fun i j hj=>?_,fun i=>?_⟩⟩
 ·match i with
  | 0=>decide
  | 1=>decide
  | 2=>decide
  | i+3=>simp [Nb]
 ·match i with
  | 0=>decide
  | 1=>decide
  | 2=>decide
  | i+3=>simp [LZ]
 ·match i with
  | 0=>simp [ndEx] at hj;subst hj;decide
  | 1=>simp [ndEx] at hj
  | 2=>simp [ndEx] at hj
  | i+3=>simp [ndEx] at hj
 ·match i with
  | 0=>simp [ndEx]
  | 1=>simp [ndEx]
  | 2=>simp [ndEx]
  | i+3=>simp [ndEx]
theorem closedEx {a b c:Bool}:dH ndEx [a,b,c] <-> (a=true->c=true):=by
 constructor
 ·intro h ha
  exact h 0 (by simpa using ha) 2 (by decide)
 ·intro h u hu j hj
  match u with
  | 0=>simp [ndEx] at hj;subst hj;simpa using h (by simpa using hu)
  | 1=>simp [ndEx] at hj
  | 2=>simp [ndEx] at hj
  | u+3=>simp [ndEx] at hj
theorem O3:Sel LZ ndEx 5 [false,true,true]:=⟨rfl,closedEx.2 (by simp),by decide⟩
theorem RZ {S:List Bool} (hS:Sel LZ ndEx 5 S) (hb:rE Nb LZ ndEx.length [false,true,true] S=false):S=[false,true,true]:=by
 have hl:=hS.len
 have hc:=hS.cost
 have hcl:=hS.closed
 match S,hl with
 | [a,b,c],_ =>
  rw [closedEx] at hcl
  cases a<;>cases b<;>cases c<;>first|rfl|(exfalso;revert hc;decide)|(exfalso;revert hb;decide)|(exfalso;revert hcl;decide)
theorem RF {S:List Bool} (hS:mO (gB Nb LZ 1 1) ndEx S):oh Nb LZ ndEx 5 1 1 S=8:=by
 have h1:=hS.most [true,true,true] rfl (closedEx.2 (by simp))
 have hl:=hS.len
 match S,hl with
 | [a,b,c],_=>cases a<;>cases b<;>cases c<;>first|rfl|(exfalso;revert h1;decide)
end Go.Proofs.Yteamkjblpglliaa
end
section
set_option linter.unusedSimpArgs false
set_option linter.unusedVariables false
namespace Go.Proofs.Yteamkjblpglliaa
open Go.RowKit Go.SL Go.HL
set_option maxHeartbeats 16000000 in
theorem xJ:HT Try.prog 18 [] (fun r=>r=.bool true):=by
 have hso:=yG pbEx 1024 (by omega) (by omega)
 have hw1:WOK (gB Nb LZ 1 1):=fun i=>by
  match i with
  | 0=>decide
  | 1=>decide
  | 2=>decide
  | i+3=>simp [gB,Nb]
 have hdu:=Hf pbEx 1 1 ⟨by omega,by omega⟩ hw1
 have hpb:jD Nb LZ ndEx 5=[.sl 3 [.int .i64 5,.int .i64 4,.int .i64 3],.sl 3 [.int .i64 4,.int .i64 3,.int .i64 2],.sl 3 [.sl 1 [.int .i64 2],.sl 0 [],.sl 0 []],.int .i64 5]:=rfl
 rw [hpb] at hso hdu
 refine HT.of rfl afl (Nat.le_of_ble_eq_true rfl) ?_
 unfold c18
 simp only [aP,Nat.reduceAdd]
 refine ak ?_
 refine ae ?_
 repeat (first|refine ah ?_|refine ag ?_)
 refine ak ?_
 refine ae ?_
 repeat (first|refine ag ?_|refine dn ?_|refine dF ?_|refine iD gU ?_|refine Aq gU aJ bW yK (by simp) (by rfl) (by rfl) (by rfl) ?_|refine nC ng nD (by simp [iU]) ?_)
 refine jb 96 [1] _ rfl rfl ?_
 refine Na 0 _ [1] (⟨[(1,.pref 0 [] 0)],[(0,.optr [.sl 3 [.int .i64 5,.int .i64 4,.int .i64 3],.sl 3 [.int .i64 4,.int .i64 3,.int .i64 2],.sl 3 [.sl 1 [.int .i64 2],.sl 0 [],.sl 0 []],.int .i64 5])],1⟩:St) (fun F h rvs fs o=>Oo o) rfl rfl ?_
 repeat (first|refine ak ?_|refine ae ?_|refine bM ?_)
 refine bf aJ dI (hso) ?_
 rintro _ ⟨s,b,rfl,hS⟩
 obtain rfl:b=true:=hS.enough (by omega) (by decide)
 have hbs:s.best=[false,true,true]:=RZ hS.sel (hS.best rfl _ O3)
 have hv7:7<=s.value:=hS.lst.ge rfl O3
 have hck:=(kX pbEx (FV Nb LZ ndEx.length s true) (by show s.best.length<=_;rw [hbs];decide)).mono (K':=fun r=>r=.int .i64 0) (by
  rintro _ ⟨e,rfl,he⟩
  rw [hS.check pbEx.g he])
 rw [GG (by rw [hbs];rfl),hpb] at hck
 have hw7:wS Nb [false,true,true] ndEx.length=7:=by decide
 have hc5:wS LZ [false,true,true] ndEx.length=5:=by decide
 unfold Gj at hck ⊢
 rw [hbs,hw7,hc5] at hck ⊢
 have hl3:ndEx.length=3:=rfl
 rw [hl3] at hck ⊢
 have hbo:HL.bools [false,true,true]=[.bool false,.bool true,.bool true]:=rfl
 rw [hbo] at hck ⊢
 have hss:=FU [false,true,true] [false,true,true] (by decide) (by decide)
 rw [decide_eq_true rfl] at hss
 have hsB:Bl [false,true,true]=.sl 3 [.bool false,.bool true,.bool true]:=rfl
 rw [hsB] at hss
 refine ⟨dE,_,_,_,_,_,dw,(by decide),aQ,?_⟩
 repeat (first|refine ah ?_|refine ag ?_|refine bU ?_|refine ak ?_|refine ae ?_|refine bM ?_|refine dn ?_|refine iD gU ?_)
 refine bf aJ dI (hdu) ?_
 rintro _ ⟨fl,set,value,hD,rfl⟩
 rw [RF hD.max]
 simp only [I]
 refine ⟨dE,_,_,_,_,_,dw,(by decide),aQ,?_⟩
 repeat (first|refine ah ?_|refine aG ?_|refine aH ?_|refine ag ?_|refine aY ?_|refine aK ?_|refine bU ?_|refine ak ?_|refine ae ?_|refine aC ?_|refine dF ?_)
 refine bf aJ dI (hss) ?_
 rintro _ rfl
 refine ⟨dE,_,_,_,_,_,dw,(by decide),aQ,?_⟩
 repeat (first|refine ah ?_|refine aG ?_|refine aH ?_|refine aY ?_|refine aK ?_|refine dG ?_|refine aC ?_|refine bM ?_)
 refine bf aJ dI (hck) ?_
 rintro _ rfl
 refine ⟨dE,_,_,_,_,_,dw,(by decide),aQ,?_⟩
 repeat (first|refine ah ?_|refine aG ?_|refine ag ?_|refine aY ?_|refine aK ?_)
 refine ay ?_
 rfl
end Go.Proofs.Yteamkjblpglliaa
end
section
set_option linter.unusedSimpArgs false
set_option linter.unusedVariables false
namespace Go.HL
open Go.RowKit
section
variable {P:Program} {E:Fr} {N fr:Nat} {sl st:Lk} {loc:Nat->Value} {fp:Nat->List Nat} {a:Act} {w:World}
theorem aeX (hr:Rel E N sl st loc fp a w) (hfr:N<=fr) {t:TypeId} {d:TypeDesc} {i:TypeInfo} (hd:P.underlying t=some d) (hi:P.info? t=some i) (hA:gG d=true) {id:Nat} {cs:List HV} {rv:Value}
  (hv:OW (fV E fp w) w.heap (RefR N st loc w.heap) [.pref id [] 0] [rv] []) (hst:st id=.optr cs) (hl:cs.length=i.size) :
  ∃r,(Instr.loadAt t rv).run P w=.ok r w/\fr<=(bH fr cs).2.2/\After E (bH fr cs).2.2 sl st (.put id .dead::(bH fr cs).2.1) (.agg (bH fr cs).1) r a w:=by
 obtain ⟨hid,-,-,hn⟩:=nH hv
 have hdd:st id≠.dead:=by rw [hst];simp
 obtain ⟨rvn,g',o',b1,b2,b3⟩:=hn (by rw [bg,hst];trivial)
 simp only [fA,Option.some.injEq] at b1
 subst b1
 have htr:=hr.tree id hdd
 rw [hst] at htr
 obtain ⟨g,cur,e,f1,hloc,hfp,hg,how⟩:∃g cur e f1,loc id=.pointer (some ⟨g,0,none⟩)/\fp id=g::f1/\w.heap[g]?=some (.cells cur e (0,0))/\OW (fV E fp w) w.heap dN cs cur.toList f1:=by
  generalize loc id=lv at htr
  generalize fp id=fs at htr
  cases htr with
  | leaf _ _ h3=>exact absurd rfl (h3 _)
  | @optr _ _ g cur e f1 _ _ _ h1 h2 h3 =>
   cases h3
   exact ⟨g,cur,e,f1,rfl,by simp,h1,h2⟩
 rw [hloc] at b2
 simp only [jB,Option.some.injEq,Prod.mk.injEq] at b2
 obtain ⟨rfl,rfl⟩:=b2
 subst b3
 obtain ⟨r,hrun,ho⟩:=Di hd hi hg how hl (by rw [hA];simp)
 rw [hA,if_pos rfl] at ho
 have hnd0:=hr.nodup id
 rw [hfp] at hnd0
 have hnd:f1.Nodup:=(List.nodup_cons.1 hnd0).2
 have hf1:∀b∈f1,b∈fp id:=fun b hb=>by rw [hfp];simp [hb]
 have u:=ho.unpack (fun _ _ h=>h) fr hnd
 have hu:bH fr [.agg cs]=([.agg (bH fr cs).1],(bH fr cs).2.1,(bH fr cs).2.2):=by simp [bH,unpack]
 rw [hu] at u
 obtain ⟨T,l,p,a1,b1,c1,d1,e1,g1⟩:=u
 simp only at a1 b1 c1 d1 e1 g1
 refine ⟨r,by simp only [Instr.loadAt,Instr.sureAddr,Nat.add_zero,Sem.run_bind,Sem.run_pure,Result.andThen_ok];exact hrun,a1,?_⟩
 generalize (bH fr cs).2.2=n2 at *
 generalize (bH fr cs).2.1=us at *
 generalize (bH fr cs).1=vs at *
 have hidf:¬ (fr<=id/\id<n2):=by omega
 have hup:∀k,Lk.upd st (.put id .dead::us) k=if fr<=k/\k<n2 then T k else if k=id then .dead else st k:=fun k=>by
  simp only [Lk.upd]
  rw [b1]
 have main:=hr.step (fun _=>True) hr.all (fun k=>k=id\/(fr<=k/\k<n2)) (N':=n2) (st':=Lk.upd st (.put id .dead::us)) (loc':=fun k=>if fr<=k/\k<n2 then l k else loc k) (fp':=fun k=>if fr<=k/\k<n2 then p k else if k=id then [] else fp k) (w':=w) (by omega) (Nat.le_refl _) rfl rfl rfl (fun _ _ _=>rfl) ?_ ?_ ?_ ?_ ?_ ?_ ?_ ?_
 ·refine ⟨_,_,by rw [show rF sl (.put id .dead::us)=sl from c1 sl];exact main.1,?_⟩
  have:=g1 n2 (Lk.upd st (.put id .dead::us)) (fun k=>if fr<=k/\k<n2 then l k else loc k) (Nat.le_refl _) (fun k h1 h2=>⟨by rw [hup,if_pos ⟨h1,h2⟩],by simp [h1,h2]⟩)
  exact this.stable (by simp) (fun b hb'=>⟨(main.2.1 b hb').1,rfl⟩) (fun _ _ h=>h)
 ·intro k hk
  simp only [not_or] at hk
  exact ⟨by rw [hup,if_neg hk.2,if_neg hk.1],by simp only [if_neg hk.2],by simp only [if_neg hk.2,if_neg hk.1]⟩
 ·intro hfz k hk hkd
  rw [hup] at hkd ⊢
  by_cases h:fr<=k/\k<n2
  ·obtain ⟨h1,h2,h3,h4⟩:=d1 k h.1 h.2
   simp only [h,and_self,if_true]
   exact h2.stable (fun _ _=>rfl) (fun b hb'=>⟨(hfz b hb').1,rfl⟩) (fun _ _ h=>h)
  ·rcases hk with rfl|hk
   ·rw [if_neg h,if_pos rfl] at hkd;exact absurd rfl hkd
   ·exact absurd hk h
 ·intro k hk hkd
  rw [hup] at hkd
  by_cases h:fr<=k/\k<n2
  ·rw [if_pos h] at hkd;exact absurd hkd (d1 k h.1 h.2).1
  ·rcases hk with rfl|hk
   ·simp only [if_neg h,if_true]
   ·exact absurd hk h
 ·intro k hk hge
  have h:¬ (fr<=k/\k<n2):=by omega
  rcases hk with rfl|hk
  ·omega
  ·exact absurd hk h
 ·intro k hk b hb
  by_cases h:fr<=k/\k<n2
  ·simp only [h,and_self,if_true] at hb
   exact .inr ⟨id,.inl rfl,hf1 b ((d1 k h.1 h.2).2.2.2 b hb)⟩
  ·rcases hk with rfl|hk
   ·simp only [if_neg h,if_true] at hb;cases hb
   ·exact absurd hk h
 ·intro k hk
  by_cases h:fr<=k/\k<n2
  ·simp only [h,and_self,if_true];exact (d1 k h.1 h.2).2.2.1
  ·rcases hk with rfl|hk
   ·simp only [if_neg h,if_true];exact .nil
   ·exact absurd hk h
 ·intro j k hj hk hjk b hb hb'
  by_cases h1:fr<=j/\j<n2
  ·by_cases h2:fr<=k/\k<n2
   ·simp only [h1,and_self,if_true] at hb
    simp only [h2,and_self,if_true] at hb'
    exact e1 j k h1.1 h1.2 h2.1 h2.2 hjk b hb hb'
   ·rcases hk with rfl|hk
    ·simp only [if_neg h2,if_true] at hb';cases hb'
    ·exact h2 hk
  ·rcases hj with rfl|hj
   ·simp only [if_neg h1,if_true] at hb;cases hb
   ·exact h1 hj
 ·intro v rv' k hv' _ hk hX
  obtain ⟨k',hk',hlt⟩:=hv'.isRef
  rw [hk] at hk'
  cases hk'
  have hkid:k=id:=by
   rcases hX with h|h
   ·exact h
   ·omega
  subst hkid
  have hdead:Lk.upd st (.put k .dead::us) k=.dead:=by rw [hup,if_neg hidf,if_pos rfl]
  cases v<;>simp only [fG,Option.some.injEq,reduceCtorEq] at hk
  ·subst hk
   obtain ⟨x1,x2,x0,x4,x3⟩:=hv'
   exact ⟨by omega,x2,x0,fun cs' h=>(by rw [hdead,kN] at h;exact HV.noConfusion h),fun sz' m cs' h=>(by rw [hdead,kN] at h;exact HV.noConfusion h)⟩
  ·subst hk
   obtain ⟨x1,x2,x0,x3⟩:=hv'
   exact ⟨by omega,x2,x0,fun h=>by rw [hdead,kN] at h;exact h.elim⟩
theorem JG {P:Program} {o:Oper} {b:Bool} {sz:Nat} {x:HX} (h:bV P o=.load b sz x):∃t y d i,o.op=.load t y/\P.underlying t=some d/\P.info? t=some i/\b=gG d/\sz=i.size/\x=gK y:=by
 unfold bV at h
 repeat' split at h
 all_goals (first|(cases h;done)|(unfold yX at h;split at h<;>(cases h;done))|skip)
 all_goals cases h
 exact ⟨_,_,_,_,‹_›,‹_›,‹_›,rfl,rfl,rfl⟩
theorem LU {s:St} {i t sz id:Nat} {x:HX} {cs:List HV} {K:St->Prop} (hx:ev s.sl x=.pref id [] 0) (hst:aX id s.st=.optr cs) (hl:cs.length=sz) (hb:(bH (s.nx+stride*i) cs).2.2<=s.nx+stride*(i+1))
  (hK:K ((s.upd (.put id .dead::(bH (s.nx+stride*i) cs).2.1)).put (some t) (.agg (bH (s.nx+stride*i) cs).1))):zX P s i (some t) (.load true sz x) K:=by
 intro E ro a w next Q hd ho hr hn
 have hdst:ro.dst=some t:=hd
 have hop:bV P ro=.load true sz x:=by
  unfold bP at ho
  by_cases h:(ro.dst.all fun d=>E.ok d)=true
  ·simpa [h] using ho
  ·simp [h] at ho
 have hok:E.ok t=true:=by
  unfold bP at ho
  by_cases h:(ro.dst.all fun d=>E.ok d)=true
  ·simpa [hdst] using h
  ·simp [h] at ho
 obtain ⟨ty,y,d,inf,q1,q2,q3,q4,rfl,rfl⟩:=JG hop
 obtain ⟨loc,fp,hr⟩:=hr
 have hv:=hr.val y
 rw [<- jU] at hv
 rw [hx] at hv
 obtain ⟨r,hrun,-,hA⟩:=aeX (P:=P) hr (Nat.le_refl _) q2 q3 q4.symm hv hst hl
 have hdo:(execOp a.eval ro).run P w=.ok (.value r) w:=by
  obtain ⟨dst,op,type,pos,after,guard⟩:=ro
  simp only at q1
  subst q1
  simp only [execOp]
  simp [hrun]
 unfold Oper.wp
 rw [hdo]
 show next (a.put ro.dst r) w
 rw [hdst]
 have h3:=SRel.done (s:=s) (d:=some t) hA (fun t' ht=>by cases ht;exact hok)
 exact hn _ _ _ (by rw [St.put_nx,St.upd_nx]) (h3.up hb) hK
theorem PO {k:List HI} {all r:List aS} {i t sz id:Nat} {x:HX} {sl st sl' st':List (Nat×HV)} {nx n2:Nat} {rs:List Nat} {K:HV->Prop} [ok:Ok (HS P) k] {cs vs:List HV} {us:List Upd} (hx:ev sl x=.pref id [] 0) (hst:aX id st=.optr cs) (hl:cs.length=sz) (hu:bH (nx+stride*i) cs=(vs,us,n2)) (hb:n2<=nx+stride*(i+1))
  (hs:Aw (some t) (.agg vs) (sQ sl ((id,.dead)::st) us)=(sl',st')) (h:G P (HS P) all r (i+1) k rs K sl' st' nx):G P (HS P) all (⟨some t,.load true sz x,none⟩::r) i k rs K sl st nx:=by
 refine GM (LU (s:=⟨sl,st,nx⟩) hx hst hl (by rw [hu];exact hb) ?_)
 rw [hu]
 exact o7 ok.mono ok.plain (kT (us:=.put id .dead::us) hs) h
end
end Go.HL
end
section
set_option linter.unusedSimpArgs false
set_option linter.unusedVariables false
namespace Go.Proofs.Yteamkjblpglliaa
open Go.RowKit Go.SL Go.HL
structure Pre (W C:List Int) (nd:List (List Nat)) (n i:Nat):Prop where
 lw:W.length=i
 lc:C.length=i
 ln:nd.length=i
 w:∀k,0<=W.getD k 0/\W.getD k 0<=14
 c:∀k,0<=C.getD k 0/\C.getD k 0<=11
 lt:∀u j,j∈nd.getD u []->j<n
 sorted:∀u,(nd.getD u []).Pairwise (·<·)
theorem Pre.nil (n:Nat):Pre [] [] [] n 0:=⟨rfl,rfl,rfl,by simp,by simp,by simp,by simp⟩
theorem jG {α:Type} (l:List α) (x d:α) (k:Nat):(l++[x]).getD k d=l.getD k d\/(l++[x]).getD k d=x\/(l++[x]).getD k d=d:=by
 by_cases h:k<l.length
 ·left;rw [List.getD_eq_getElem?_getD,List.getElem?_append_left h,List.getD_eq_getElem?_getD]
 ·by_cases h2:k=l.length
  ·subst h2;right;left;simp
  ·right;right;rw [List.getD_eq_getElem?_getD,List.getElem?_eq_none (by simp;omega)];rfl
theorem Pre.snoc {W C:List Int} {nd:List (List Nat)} {n i:Nat} (h:Pre W C nd n i) {x y:Nat} {row:List Nat} (hx:x<14) (hy:y<11) (h1:∀j∈row,j<n) (h2:row.Pairwise (·<·)):Pre (W++[(x:Int)]) (C++[(y:Int)]) (nd++[row]) n (i+1):=by
 refine ⟨by simp [h.lw],by simp [h.lc],by simp [h.ln],fun k=>?_,fun k=>?_,fun u j hj=>?_,fun u=>?_⟩
 ·rcases jG W (x:Int) 0 k with e|e|e<;>rw [e]
  ·exact h.w k
  ·omega
  ·omega
 ·rcases jG C (y:Int) 0 k with e|e|e<;>rw [e]
  ·exact h.c k
  ·omega
  ·omega
 ·rcases jG nd row [] u with e|e|e<;>rw [e] at hj
  ·exact h.lt u j hj
  ·exact h1 j hj
  ·cases hj
 ·rcases jG nd row [] u with e|e|e<;>rw [e]
  ·exact h.sorted u
  ·exact h2
  ·exact .nil
theorem Pre.pb {W C:List Int} {nd:List (List Nat)} {n:Nat} (h:Pre W C nd n n) (hn:n<=256) {B:Nat} (hB:B<40):Pb W C nd (B:Int) :=
 ⟨by rw [h.lw,h.ln],by rw [h.lc,h.ln],fun i=>⟨(h.w i).1,by have:=(h.w i).2;omega⟩,fun i=>⟨(h.c i).1,by have:=(h.c i).2;omega⟩,by omega,⟨by rw [h.ln];exact hn,by simp,fun u j hj=>by rw [h.ln];exact h.lt u j hj,h.sorted⟩⟩
def O4 (W C:List Int) (nd:List (List Nat)) (B:Int) (n:Nat):List HV:=[.osl 1 n (HL.ints W),.osl 1 n (HL.ints C),.osl 1 n (fZ nd),.int .i64 B]
structure RowU (n k:Nat) (row:List Nat):Prop where
 lt:∀j∈row,j<k
 sorted:row.Pairwise (·<·)
 len:row.length<=k
theorem RowU.snoc {n k:Nat} {row:List Nat} (h:RowU n k row):RowU n (k+1) (row++[k]) :=
 ⟨fun j hj=>by
  rcases List.mem_append.1 hj with hj|hj
  ·have:=h.lt j hj;omega
  ·simp at hj;omega,List.pairwise_append.2 ⟨h.sorted,by simp,fun a ha b hb=>by simp at hb;subst hb;exact h.lt a ha⟩,by simp;exact h.len⟩
theorem RowU.up {n k:Nat} {row:List Nat} (h:RowU n k row):RowU n (k+1) row:=⟨fun j hj=>by have:=h.lt j hj;omega,h.sorted,by have:=h.len;omega⟩
set_option maxHeartbeats 4000000 in
theorem wB (l:List Int) (hl:l.length<=9223372036854775807) (hr:∀k,k<l.length -> -9223372036854775808<=l.getD k 0/\l.getD k 0<=9223372036854775807) (K0:HV->Prop)
  (hend:∀ (W C:List Int) (nd:List (List Nat)) (n B:Nat),Pre W C nd n n->n<10->B<40->hx Try.prog [.c O8] (finish [2] (KC [.c 2 true 4] K0)) ⟨[(2,.pref 0 [] 0),(4,.pref 1 [] 0)],[(0,.optr [.nils,.nils,.nils,.int .i64 0]),(1,.optr (O4 W C nd B n))],2⟩):HT Try.prog 9 [I l] K0:=by
 refine HT.ofC rfl fc9 [2] rfl (Nat.le_of_ble_eq_true rfl) ?_
 unfold c9
 simp only [I,aP,Nat.reduceAdd]
 repeat (first|refine ah ?_|refine ag ?_|refine ak ?_|refine ae ?_|refine iD gU ?_)
 refine bf aJ dI (Ah l 0 10 (by omega) (by omega) (by omega) hl hr) ?_
 rintro _ ⟨n,rfl,hn⟩
 refine ⟨dE,_,_,_,_,_,dw,(by decide),aQ,?_⟩
 repeat (first|refine ah ?_|refine ag ?_|refine ak ?_|refine ae ?_)
 refine bf aJ dI (Ah l 1 40 (by omega) (by omega) (by omega) hl hr) ?_
 rintro _ ⟨B,rfl,hB⟩
 refine ⟨dE,_,_,_,_,_,dw,(by decide),aQ,?_⟩
 repeat (first|refine ah ?_|refine ag ?_|refine ak ?_|refine ae ?_|refine aB ?_|refine dn ?_|refine iD gU ?_|refine nC ng nD (by simp [iU]) ?_)
 refine Jf 112 [1,1,1] [0,2,3,4,5] (⟨[(0,.sl l.length (HL.ints l)),(2,.pref 0 [] 0),(3,.int .i64 n),(4,.pref 1 [] 0),(5,.int .i64 0)],[(0,.optr [.nils,.nils,.nils,.int .i64 0]),(1,.optr [.osl 1 0 [],.osl 1 0 [],.osl 1 0 [],.int .i64 B])],2⟩:St) rfl rfl ?_
 refine bD [0,2,3,4,5] (fun s:Nat×List Int×List Int×List (List Nat)=>s.1<=n/\Pre s.2.1 s.2.2.1 s.2.2.2 n s.1)
  (fun s=>⟨[(0,.sl l.length (HL.ints l)),(2,.pref 0 [] 0),(3,.int .i64 n),(4,.pref 1 [] 0),(5,.int .i64 s.1)],[(0,.optr [.nils,.nils,.nils,.int .i64 0]),(1,.optr (O4 s.2.1 s.2.2.1 s.2.2.2 B s.1))],2⟩) (fun s=>n - s.1) (0,[],[],[]) ⟨by omega,Pre.nil n⟩ rfl ?_
 rintro ⟨i,W,C,nd⟩ ⟨hi,hP⟩
 simp only at hi hP ⊢
 unfold O4
 have hWl:=hP.lw
 have hCl:=hP.lc
 have hnl:=hP.ln
 by_cases hin:i<n
 ·have hat1:=Ah l (2+2*i) 14 (by omega) (by omega) (by omega) hl hr
  have hat2:=Ah l (3+2*i) 11 (by omega) (by omega) (by omega) hl hr
  rw [show ((2+2*i:Nat):Int)=2+2*(i:Int) by omega] at hat1
  rw [show ((3+2*i:Nat):Int)=3+2*(i:Int) by omega] at hat2
  repeat (first|refine ah ?_|refine ag ?_|refine az ?_|refine ax ?_|refine ak ?_|refine ae ?_|refine aB ?_|refine aA ?_)
  refine Dx [] [] bi bi (fun _ _ r=>∃y:Nat,r=.int .i64 y/\y<14) (by simp) (by simp) ?_ (by rintro _ _ _ ⟨y,rfl,-⟩ fr;exact lG)
  repeat (first|refine ah ?_|refine aH ?_|refine bz ?_|refine lg (by rfl) (by rfl) nV ?_|refine aC ?_)
  refine bG aJ dI hat1 ⟨.int .i64 (0:Nat),⟨0,rfl,by omega⟩,rfl⟩ ?_
  rintro _ ⟨x,rfl,hx14⟩ -
  refine ⟨dE,_,_,_,_,_,dw,(by decide),aQ,?_⟩
  repeat (first|refine ag ?_|refine ak ?_|refine aC ?_|refine dn ?_|refine dF ?_|refine kK ?_)
  refine Dx [] [] bi bi (fun _ _ r=>∃y:Nat,r=.int .i64 y/\y<11) (by simp) (by simp) ?_ (by rintro _ _ _ ⟨y,rfl,-⟩ fr;exact lG)
  repeat (first|refine ah ?_|refine aH ?_|refine bz ?_|refine lg (by rfl) (by rfl) nV ?_|refine aC ?_)
  refine bG aJ dI hat2 ⟨.int .i64 (0:Nat),⟨0,rfl,by omega⟩,rfl⟩ ?_
  rintro _ ⟨y,rfl,hy11⟩ -
  refine ⟨dE,_,_,_,_,_,dw,(by decide),aQ,?_⟩
  repeat (first|refine ah ?_|refine ag ?_|refine ak ?_|refine ae ?_|refine aB ?_|refine eU rfl (by rfl) gU ?_|refine aC ?_|refine dn ?_|refine dF ?_|refine kK ?_)
  refine bD [0,2,3,4,5,6,7] (fun s:Nat×List Nat=>s.1<=n/\RowU n s.1 s.2)
   (fun s=>⟨[(0,.sl l.length (HL.ints l)),(2,.pref 0 [] 0),(3,.int .i64 n),(4,.pref 1 [] 0),(5,.int .i64 i),(6,.ref 2 [] 1 0 s.2.length),(7,.int .i64 s.1)],[(0,.optr [.nils,.nils,.nils,.int .i64 0]),(1,.optr [.osl 1 (i+1) (HL.ints (W++[(x:Int)])),.osl 1 (i+1) (HL.ints (C++[(y:Int)])),.osl 1 i (fZ nd),.int .i64 B]),(2,.osl 1 s.2.length (HL.ints (nl s.2)))],3⟩) (fun s=>n - s.1) (0,[]) ⟨by omega,⟨by simp,.nil,by simp⟩⟩ rfl ?_
  rintro ⟨k,row⟩ ⟨hk,hR⟩
  simp only at hk hR ⊢
  have hRl:=hR.len
  by_cases hkn:k<n
  ·have hat1:=Ah l (22+i+3*k) 5 (by omega) (by omega) (by omega) hl hr
   have hat2:=Ah l (23+i+k) 4 (by omega) (by omega) (by omega) hl hr
   rw [show ((22+i+3*k:Nat):Int)=22+(i:Int)+3*(k:Int) by omega] at hat1
   rw [show ((23+i+k:Nat):Int)=23+(i:Int)+(k:Int) by omega] at hat2
   have no:RowU n (k+1) row:=hR.up
   have yes:RowU n (k+1) (row++[k]):=hR.snoc
   have hsn:(row++[k]).length=row.length+1:=by simp
   have hnr:=fH row
   repeat (first|refine ah ?_|refine ag ?_|refine az ?_|refine bz ?_|refine ax ?_|refine ak ?_|refine ae ?_|refine aB ?_|refine aA ?_|refine lg (by rfl) (by rfl) nV ?_)
   refine bf aJ dI (hat1) ?_
   rintro _ ⟨y1,rfl,hy1⟩
   refine ⟨dE,_,_,_,_,_,dw,(by decide),aQ,?_⟩
   by_cases h1:y1=1
   ·subst h1
    by_cases h2:k>i
    ·repeat (first|refine ah ?_|refine aG ?_|refine bZ ?_|refine ag ?_|refine aY ?_|refine aK ?_|refine bz ?_|refine ax ?_|refine ae ?_|refine dh ?_|refine bn ?_|refine dF ?_|refine kK ?_)
     exact bJ [0,2,3,4,5,6,7] (k+1,row++[k]) ⟨hkn,yes⟩ dV (by rw [hsn];rfl)
    ·repeat (first|refine ah ?_|refine aG ?_|refine aY ?_|refine bz ?_|refine bn ?_)
     refine bf aJ dI (hat2) ?_
     rintro _ ⟨y2,rfl,hy2⟩
     refine ⟨dE,_,_,_,_,_,dw,(by decide),aQ,?_⟩
     by_cases h3:y2=2
     ·subst h3
      repeat (first|refine ah ?_|refine aG ?_|refine ag ?_|refine aY ?_|refine aK ?_|refine aI ?_|refine bz ?_|refine ax ?_|refine ae ?_|refine dh ?_|refine dF ?_|refine kK ?_)
      exact bJ [0,2,3,4,5,6,7] (k+1,row++[k]) ⟨hkn,yes⟩ dV (by rw [hsn];rfl)
     ·repeat (first|refine ah ?_|refine aG ?_|refine ag ?_|refine aY ?_|refine aK ?_|refine aI ?_|refine bz ?_|refine au ?_|refine ae ?_|refine dh ?_|refine aA ?_)
      exact bJ [0,2,3,4,5,6,7] (k+1,row) ⟨hkn,no⟩ dV rfl
   ·repeat (first|refine ah ?_|refine bZ ?_|refine ag ?_|refine aY ?_|refine aI ?_|refine bz ?_|refine au ?_|refine ae ?_|refine dh ?_|refine aA ?_|refine tu (by rfl) (by rfl) ?_)
    exact bJ [0,2,3,4,5,6,7] (k+1,row) ⟨hkn,no⟩ dV rfl
  ·obtain rfl:k=n:=by omega
   have hPs:=hP.snoc hx14 hy11 (row:=row) hR.lt hR.sorted
   have hro:=xY nd row rfl
   have hrol:=oI nd
   repeat (first|refine ah ?_|refine gJ (by rfl) dm (by (try simp (disch:=omega) only [go_sem,reduceIte,Nat.reduceEqDiff,Nat.reduceAdd,Nat.reduceMul,hro]);try rfl) aT (by (try simp (disch:=omega) only [go_sem,hro]);try rfl) fP ?_|refine ag ?_|refine az ?_|refine di (by rfl) (by rfl) (by (try simp (disch:=omega) only [go_sem,Int.reduceAdd,Int.reduceSub,Int.reduceMul,hro]);try rfl) ?_|refine aO ?_|refine au ?_|refine ak ?_|refine ae ?_|refine dh ?_|refine aC ?_|refine J6 (by rfl) fP bW yK KE (by rfl) OY (by rfl) O6 (by (try simp (disch:=omega) only [go_sem,reduceIte,Nat.reduceEqDiff,Nat.reduceAdd,Nat.reduceMul,hro]);try rfl) aT (by (try simp (disch:=omega) only [go_sem,hro]);try rfl) bW O9 ?_|refine Aq gU aJ bW yK (by simp) (by rfl) (by rfl) (by rfl) ?_|refine Hz gU (by rfl) fP AY (by simp [o8,rq,cellV]) dm bW gU (by omega) jT aT (by (try simp (disch:=omega) only [go_sem,reduceIte,Nat.reduceEqDiff,Nat.reduceAdd,Nat.reduceMul,hro]);try rfl) bW (by rfl) ?_)
   exact bJ [0,2,3,4,5] (i+1,W++[(x:Int)],C++[(y:Int)],nd++[row]) ⟨hin,hPs⟩ dV rfl
 ·obtain rfl:i=n:=by omega
  refine ak ?_
  refine ak ?_
  refine ae ?_
  repeat (first|refine ah ?_|refine ag ?_|refine az ?_)
  refine au ?_
  refine aO ?_
  refine dO [2,4] (⟨[(2,.pref 0 [] 0),(4,.pref 1 [] 0)],[(0,.optr [.nils,.nils,.nils,.int .i64 0]),(1,.optr (O4 W C nd B i))],2⟩:St) rfl ?_
  exact hend W C nd i B hP hn hB
theorem xW (l:List Int) (hl:l.length<=9223372036854775807) (hr:∀k,k<l.length -> -9223372036854775808<=l.getD k 0/\l.getD k 0<=9223372036854775807):HT Try.prog 9 [I l] (fun r=>∃W C nd B,Pb W C nd B/\nd.length<=9/\r=.agg (jD W C nd B)):=by
 refine wB l hl hr _ fun W C nd i B hP hn hB=>?_
 have hWl:=hP.lw
 have hCl:=hP.lc
 have hnl:=hP.ln
 unfold O4
 have hE:(stripL (HL.ints W),stripL (HL.ints C),stripL (fZ nd))=(HL.ints W,HL.ints C,aZ (nd.map nl)):=by rw [HL.ints_strip,HL.ints_strip,nM]
 refine kE 1 [2,4] (⟨[(2,.pref 0 [] 0),(4,.ptr [.sl i (HL.ints W),.sl i (HL.ints C),.sl i (aZ (nd.map nl)),.int .i64 B] 0)],[(0,.optr [.nils,.nils,.nils,.int .i64 0])],1⟩:St) (congrArg (fun p:List HV×List HV×List HV=>(⟨[(2,.pref 0 [] 0),(4,.ptr [.sl i p.1,.sl i p.2.1,.sl i p.2.2,.int .i64 B] 0)],[(0,.optr [.nils,.nils,.nils,.int .i64 0])],1⟩:St)) hE) ?_
 repeat (first|refine ag ?_|refine ak ?_|refine ae ?_|refine GV (by rfl) aT MZ ?_|refine dn ?_)
 refine ay ?_
 refine ⟨_,_,rfl,rfl,W,C,nd,B,hP.pb (by omega) hB,by omega,?_⟩
 unfold jD I Gs
 rw [hWl,hCl,List.length_map,hnl]
 rfl
theorem CG (l:List Int) (hl:l.length<=9223372036854775807) (hr:∀k,k<l.length -> -9223372036854775808<=l.getD k 0/\l.getD k 0<=9223372036854775807):HT Try.prog 9 [I l] (fun r=>∃W C nd B,Pb W C nd B/\nd.length<=9/\r=.agg (O4 W C nd B nd.length)):=by
 refine wB l hl hr _ fun W C nd i B hP hn hB=>?_
 have hWl:=hP.lw
 have hCl:=hP.lc
 have hnl:=hP.ln
 unfold O4
 repeat (first|refine ak ?_|refine ae ?_)
 refine PO fP (by rfl) (by rfl) dw (by decide) aQ ?_
 repeat (first|refine ag ?_|refine dn ?_)
 refine ay ?_
 exact ⟨_,_,rfl,rfl,W,C,nd,B,hP.pb (by omega) hB,by omega,by rw [hnl];rfl⟩
end Go.Proofs.Yteamkjblpglliaa
end
