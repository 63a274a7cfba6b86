import Derived.Test.YteamkjblpglliaaCodesAbridgeBound
import Derived.Test.YteamkjblpglliaaAbP
import Derived.Test.YteamkjblpglliaaHlEx
set_option linter.unusedSimpArgs false
set_option linter.unusedVariables false
namespace Go.Proofs.Yteamkjblpglliaa
open Go.RowKit Go.SL Go.HL
theorem Fz {n s t:Nat} {es:List Edge} (hv:VNet n s t es) {fl:List Int} (hl:fl.length=es.length) {x y:Int} (h:CheckR n s t es fl x y) (hy:y=0):uf n s t es fl/\x=mP es fl s es.length:=by
 have hb:=hv.bounds
 have hn:∀u:Nat,(ja n es fl es.length).getD u 0=if u < n then mP es fl u es.length else 0:=fun u=>by
  have:=D9 hv fl _ (Nat.le_refl _) u
  simpa using this
 rcases h with ⟨_,_,h⟩|⟨_,_,_,h⟩|⟨hok,hno,hx,_⟩
 ·omega
 ·omega
 ·refine ⟨⟨hl,hok,fun u h1 h2 h3=>?_⟩,?_⟩
  ·apply Classical.byContradiction
   intro h4
   refine hno ⟨u,by omega,h2,h3,?_⟩
   rw [hn,if_pos (by omega)];exact h4
  ·rw [hx]
   simp only [Int.toNat_natCast]
   rw [hn,if_pos (by omega)]
theorem Ko {w:List Int} {nd:List (List Nat)} {bad:List Bool} {fl:List Int} {x:Int} (g:Gr nd bad) (hw:WOK w) (h:BoundR w nd fl x 0) {X:List Bool} (hl:X.length=nd.length) (hc:dG nd X):wS w X nd.length<=x:=by
 rcases h with ⟨_,_,h⟩|⟨hfl,v,e,hR,h⟩
 ·omega
 ·rcases h with ⟨h1,_,h2⟩|⟨h1,h2,_⟩
  ·omega
  ·obtain ⟨hf,hv⟩:=Fz (n:=nd.length+2) (s:=nd.length) (t:=nd.length+1) (mM g hw) hfl hR h1
   have h3:=uB (mM g hw) hf (xI hl)
   have h4:=wW g hw hl
   have h5:=(Ib g hl).2.1 hc
   simp only [Int.toNat_natCast] at h3
   omega
theorem xq (l:List Int):qc (HL.ints l)=true:=by
 induction l with
 | nil=>rfl
 | cons x l ih=>show (true && qc (HL.ints l))=true;rw [ih];rfl
theorem Ac (l:List (List Int)):qc (bf l)=true:=by
 induction l with
 | nil=>rfl
 | cons x l ih=>show (qc (HL.ints x) && qc (bf l))=true;rw [ih,xq];rfl
theorem PZ (W C:List Int) (g:List (List Int)) (n:Nat) (B a b:Int):qc [.agg [.sl n (HL.ints W),.sl n (HL.ints C),.sl n (bf g),.int .i64 B],.int .i64 a,.int .i64 b]=true:=by
 simp [qc,HV.rdb,xq,Ac]
theorem OM (W C:List Int) (g:List (List Int)) (n:Nat) (B a:Int):qc [.agg [.sl n (HL.ints W),.sl n (HL.ints C),.sl n (bf g),.int .i64 B],.int .i64 a]=true:=by
 simp [qc,HV.rdb,xq,Ac]
def boD (W C:List Int) (nd:List (List Nat)) (B:Int) (f0:FuncId) (m:Nat):FuncId->List HV->HV->Prop:=fun f xs r=>(f=f0->∃y:Nat,r=.int .i64 y/\y < m)/\(f≠f0->∃P a b,xs=[P,.int .i64 a,.int .i64 b]/\Ci W C nd B a b r)
theorem JY {W C:List Int} {nd:List (List Nat)} {B:Int} {f0 f:FuncId} {m:Nat} {P r:HV} {a b:Int} (hf:f≠f0) (h:Ci W C nd B a b r):boD W C nd B f0 m f [P,.int .i64 a,.int .i64 b] r :=
 ⟨fun e=>absurd e hf,fun _=>⟨P,a,b,rfl,h⟩⟩
theorem NU {W C:List Int} {nd:List (List Nat)} {B:Int} {f0 f:FuncId} {m:Nat} {P r:HV} {a b:Int} (hf:f≠f0) (h:boD W C nd B f0 m f [P,.int .i64 a,.int .i64 b] r):Ci W C nd B a b r:=by
 obtain ⟨P',a',b',e,h⟩:=h.2 hf
 cases e;exact h
theorem Ha {W C:List Int} {nd:List (List Nat)} {B:Int} {f0:FuncId} {m y:Nat} {xs:List HV} (h:y < m):boD W C nd B f0 m f0 xs (.int .i64 y):=⟨fun _=>⟨y,rfl,h⟩,fun e=>absurd rfl e⟩
def boS (W C:List Int) (nd:List (List Nat)) (B:Int) (f0:FuncId) (m:Nat):FuncId->List HV->HV->Prop:=fun f xs r=>(f=f0->∃y:Nat,r=.int .i64 y/\y < m)/\(f≠f0->∃P a,xs=[P,.int .i64 a]/\∃s b,r=.tup [.agg (wP W C nd.length s b),.int .i64 0]/\SolS W C nd B a s b)
theorem Kr {W C:List Int} {nd:List (List Nat)} {B:Int} {f0 f:FuncId} {m:Nat} {P r:HV} {a:Int} (hf:f≠f0) (h:∃s b,r=.tup [.agg (wP W C nd.length s b),.int .i64 0]/\SolS W C nd B a s b):boS W C nd B f0 m f [P,.int .i64 a] r :=
 ⟨fun e=>absurd e hf,fun _=>⟨P,a,rfl,h⟩⟩
theorem NV {W C:List Int} {nd:List (List Nat)} {B:Int} {f0 f:FuncId} {m:Nat} {P r:HV} {a:Int} (hf:f≠f0) (h:boS W C nd B f0 m f [P,.int .i64 a] r):∃s b,r=.tup [.agg (wP W C nd.length s b),.int .i64 0]/\SolS W C nd B a s b:=by
 obtain ⟨P',a',e,h⟩:=h.2 hf
 cases e;exact h
theorem Ol {W C:List Int} {nd:List (List Nat)} {B:Int} {f0:FuncId} {m y:Nat} {xs:List HV} (h:y < m):boS W C nd B f0 m f0 xs (.int .i64 y):=⟨fun _=>⟨y,rfl,h⟩,fun e=>absurd rfl e⟩
theorem J5 {W C:List Int} {nd:List (List Nat)} {B:Int} (h:Pb W C nd B) {s:Sn} (he:QD W C nd B s 0) {X:List Bool} (hX:Sel C nd B X):wS W X nd.length<=s.bound:=by
 rcases he with ⟨_,e⟩|⟨hA,x,y,hB,⟨rfl,hb,_⟩|⟨_,e⟩⟩
 ·omega
 ·rw [<- hb]
  have h1:=Ko h.g hA.wok hB hX.len hX.closed
  have hlw:=h.lw
  rw [lL _ _ _ _ _ _ (by omega)] at h1
  have h2:s.num * wS C X nd.length<=s.num * B:=Int.mul_le_mul_of_nonneg_left hX.cost hA.mul.1.1
  refine (Int.le_ediv_iff_mul_le (by have:=hA.mul.2.1;omega)).2 ?_
  rw [Int.mul_comm];omega
 ·omega
theorem Iw {W C:List Int} {nd:List (List Nat)} {B:Int} (h:Pb W C nd B) {x y:Nat} (hx:x < 30) (hy:y < 30):WOK (ik W C x (1+(y:Int))):=fun i=>by
 by_cases hi:i < W.length
 ·rw [oQ W C _ _ hi]
  have h1:=h.w i
  have h2:=h.c i
  have a1:(x:Int) * C.getD i 0<=30 * 1048576:=Int.mul_le_mul (by omega) h2.2 h2.1 (by omega)
  have a2:(1+(y:Int)) * W.getD i 0<=30 * 1048576:=Int.mul_le_mul (by omega) h1.2 h1.1 (by omega)
  have a3:0<=(x:Int) * C.getD i 0:=Int.mul_nonneg (by omega) h2.1
  have a4:0<=(1+(y:Int)) * W.getD i 0:=Int.mul_nonneg (by omega) h1.1
  omega
 ·rw [List.getD_eq_getElem?_getD,List.getElem?_eq_none (by rw [mQ];omega)];simp
set_option maxHeartbeats 16000000 in
theorem En (l:List Int) (bits num den at_ how by_:Int) (hl:l.length<=9223372036854775807) (hr:∀k,k < l.length -> -9223372036854775808<=l.getD k 0/\l.getD k 0<=9223372036854775807)
  (hbi : -9223372036854775808<=bits/\bits<=9223372036854775807) (hnu : -9223372036854775808<=num/\num<=9223372036854775807) (hde : -9223372036854775808<=den/\den<=9223372036854775807) (ha : -9223372036854775808<=at_/\at_<=9223372036854775807) (hh : -9223372036854775808<=how/\how<=9223372036854775807) (hb : -9223372036854775808<=by_/\by_<=9223372036854775807) :
  HT Try.prog 6 [I l,.int .i64 bits,.int .i64 num,.int .i64 den,.int .i64 at_,.int .i64 how,.int .i64 by_] (fun r=>r=.bool true):=by
 refine HT.of rfl fc6 (Nat.le_of_ble_eq_true rfl) ?_
 unfold c6
 simp only [I,aO,Nat.reduceAdd]
 repeat (first|refine ah ?_|refine ag ?_|refine ak ?_|refine ae ?_)
 refine bg aK dO (yf l hl hr) ?_
 rintro _ ⟨W,C,nd,B,h,hn9,rfl⟩
 have hsz:=h.g.size
 have hlw:=h.lw
 have hlc:=h.lc
 have hB:=h.b
 have hnl:(nd.map nl).length=nd.length:=by simp
 simp only [jX,I,Gs,hlw,hlc,hnl]
 refine ⟨dF,_,_,_,_,_,dA,(by decide),aQ,?_⟩
 repeat (first|refine ah ?_|refine aF ?_|refine ag ?_|refine aG ?_|refine ak ?_|refine ae ?_|refine aA ?_|refine dh ?_|refine gU gY ?_)
 refine bg aK dO (yl nd.length bits (by omega) hbi.1 hbi.2) ?_
 rintro _ rfl
 obtain ⟨R,hR⟩:∃R,vF bits nd.length=R:=⟨_,rfl⟩
 have hRl:R.length=nd.length:=by rw [<- hR,qO]
 rw [hR]
 refine ⟨dF,_,_,_,_,_,dA,(by decide),aQ,?_⟩
 have h3:∀x,((nd.map nl).getD x []).length<=9223372036854775807:=fun x=>by rw [dM,fE];have:=h.g.len x;omega
 have hhull:=(wU (nd.map nl) R (by omega) (by omega) h3).mono (K':=fun r=>∃H,r=.osl 1 nd.length (HL.bools H)/\H.length=nd.length/\dG nd H) (by
  rintro _ ⟨H,rfl,⟨hf0,-⟩|⟨-,hH⟩⟩
  ·rw [oP h.g hRl] at hf0;cases hf0
  ·exact ⟨H,by rw [hH.len,hRl],by rw [hH.len,hRl],closedN_Y.1 hH.closed⟩)
 simp only [Gs,Bl,hnl,hRl] at hhull
 repeat (first|refine ah ?_|refine aF ?_|refine ag ?_|refine ak ?_|refine ae ?_|refine aA ?_)
 refine bg aK (by simp (disch:=omega) only [dL,fK,HV.thaw,dC,aW,aZ,if_true,if_false,reduceIte,Nat.reduceEqDiff,stripL,HV.strip,fH,dQ,eU,Nat.mul_one,List.cons_append,List.nil_append,List.append_nil,I,Bl,T3,Es,List.getD_cons_zero,List.getD_cons_succ,HL.ints_strip,HL.bools_strip,eH,dZ];try rfl) (hhull) ?_
 rintro _ ⟨A,rfl,hAl,hAc⟩
 refine ⟨dF,_,_,_,_,_,dA,(by decide),aQ,?_⟩
 have oC:=iR C A h.cok (by omega) (by omega)
 have oW:=iR W A h.wok (by omega) (by omega)
 have hcl:=zn (nd.map nl) A (by omega) (by omega) h3
 rw [(kS (oP h.g hAl)).2 (closedN_Y.2 hAc)] at hcl
 simp only [I,Gs,Bl,hlw,hlc,hAl,hnl] at oC oW hcl
 have bC:=jU h.c A nd.length
 have bW:=jU h.w A nd.length
 repeat (first|refine ah ?_|refine aF ?_|refine ag ?_|refine ak ?_|refine ae ?_|refine aA ?_)
 refine bg aK dO (oC) ?_
 rintro _ rfl
 refine ⟨dF,_,_,_,_,_,dA,(by decide),aQ,?_⟩
 repeat (first|refine ah ?_|refine aH ?_|refine aF ?_|refine ag ?_|refine aY ?_|refine jd (by rfl) ?_|refine aG ?_|refine ak ?_|refine ae ?_|refine aA ?_)
 refine bg aK (by simp (disch:=omega) only [dL,fK,HV.thaw,dC,aW,aZ,if_true,if_false,reduceIte,Nat.reduceEqDiff,stripL,HV.strip,fH,dQ,eU,Nat.mul_one,List.cons_append,List.nil_append,List.append_nil,I,Bl,T3,Es,List.getD_cons_zero,List.getD_cons_succ,HL.ints_strip,HL.bools_strip,eH,dZ];try rfl) (hcl) ?_
 rintro _ rfl
 refine ⟨dF,_,_,_,_,_,dA,(by decide),aQ,?_⟩
 repeat (first|refine aH ?_|refine ag ?_|refine aI ?_|refine au ?_|refine ak ?_|refine aB ?_|refine fD (by rfl) ?_)
 refine bU aU aU (boD W C nd B 10 30) ?_
 repeat (first|refine ah ?_|refine bV ?_)
 refine bF aK dO ((jl num 30 (by omega) (by omega) hnu.1 hnu.2).mono fun r h=>⟨fun _=>h,fun e=>absurd rfl e⟩) ⟨.int .i64 (0:Nat),Ha (by omega),rfl⟩ ?_
 rintro r hr -
 obtain ⟨x,rfl,hx1⟩:=hr.1 rfl
 refine ⟨dF,_,_,_,_,_,dA,(by decide),aQ,?_⟩
 repeat (first|refine ah ?_)
 refine bF aK dO ((jl den 30 (by omega) (by omega) hde.1 hde.2).mono fun r h=>⟨fun _=>h,fun e=>absurd rfl e⟩) ⟨.int .i64 (0:Nat),Ha (by omega),rfl⟩ ?_
 rintro r hr -
 obtain ⟨y,rfl,hy1⟩:=hr.1 rfl
 refine ⟨dF,_,_,_,_,_,dA,(by decide),aQ,?_⟩
 have hmu:Mul (x:Int) (1+(y:Int)):=⟨⟨by omega,by omega⟩,by omega,by omega⟩
 have hdu:=Bc h x (1+(y:Int)) hmu (Iw h hx1 hy1)
 simp only [jX,I,Gs,hlw,hlc,hnl] at hdu
 repeat (first|refine bM ?_)
 refine bF aK dO (hdu.mono fun r h=>JY (by decide) h) (by obtain ⟨r,h,hd⟩:=HT.ex hdu (PZ _ _ _ _ _ _ _);exact ⟨r,JY (by decide) h,hd⟩) ?_
 rintro r hr -
 obtain ⟨fl,set,value,hD,rfl⟩:=NU (by decide) hr
 obtain ⟨d,hd⟩:∃d,l9 W C nd B x (1+(y:Int)) (set.take nd.length)=d:=⟨_,rfl⟩
 have hge:=fun {X:List Bool} (hX:Sel C nd B X)=>Hf (hlw) hmu hD.max hX
 rw [hd] at hge ⊢
 simp only [I]
 refine ⟨dF,_,_,_,_,_,dA,(by decide),aQ,?_⟩
 repeat (first|refine ah ?_|refine ag ?_|refine cu ?_)
 refine ak ?_
 refine bU aU aU (boS W C nd B 10 20) ?_
 repeat (first|refine ah ?_|refine bV ?_)
 refine bF aK dO ((jl by_ 20 (by omega) (by omega) hb.1 hb.2).mono fun r h=>⟨fun _=>h,fun e=>absurd rfl e⟩) ⟨.int .i64 (0:Nat),Ol (by omega),rfl⟩ ?_
 rintro r hr -
 obtain ⟨z,rfl,hz1⟩:=hr.1 rfl
 refine ⟨dF,_,_,_,_,_,dA,(by decide),aQ,?_⟩
 have hso:=nV h z (by omega) (by omega)
 simp only [jX,I,Gs,hlw,hlc,hnl] at hso
 skip
 refine bF aK dO (hso.mono fun r h=>Kr (by decide) h) (by obtain ⟨r,h,hd⟩:=HT.ex hso (OM _ _ _ _ _ _);exact ⟨r,Kr (by decide) h,hd⟩) ?_
 rintro r hr -
 obtain ⟨s,b,rfl,hS⟩:=NV (by decide) hr
 have hbl:=hS.sel.len
 obtain ⟨sn,hsn⟩:∃sn,Fv W C nd.length s b=sn:=⟨_,rfl⟩
 have hsl:sn.set.length<=100000:=by rw [<- hsn];show s.best.length<=_;omega
 rw [<- EI hbl,hsn]
 unfold JS I Bl
 refine ⟨dF,_,_,_,_,_,dA,(by decide),aQ,?_⟩
 repeat (first|refine ah ?_|refine ag ?_|refine cu ?_|refine dh ?_|refine gU gY ?_)
 refine dU [4,5,6,14,15,17,18,19,21,22,23] (⟨[(4,.int .i64 at_),(5,.int .i64 how),(6,.int .i64 by_),(14,.bool false),(15,.pref 0 [] 0),(17,.ref 1 [] 1 0 nd.length),(18,.int .i64 (wS C A nd.length)),(19,.int .i64 d),(21,.int .i64 0),(22,.pref 2 [] 0),(23,.int .i64 0)],[(0,.optr [.sl nd.length (HL.ints W),.sl nd.length (HL.ints C),.sl nd.length (bf (nd.map nl)),.int .i64 B]),(1,.osl 1 nd.length (HL.bools A)),(2,.optr [.sl sn.set.length (HL.bools sn.set),.int .i64 sn.worth,.int .i64 sn.cost,.int .i64 sn.num,.int .i64 sn.den,.sl sn.flow.length (HL.ints sn.flow),.int .i64 sn.bound,.bool sn.exact])],3⟩:St) rfl ?_
 have hfl:sn.flow.length<=100000:=by
  rw [<- hsn]
  obtain ⟨set',value',hD',-⟩:=hS.lst.dual
  have a1:=hD'.found.flow.len
  have a2:=kU h.g (ik W C s.num s.den)
  have a3:=Nat.mul_le_mul hn9 hn9
  show s.flow.length<=_
  omega
 have h1:sn.worth<=sn.bound:=by rw [<- hsn];exact hS.lst.ge hlw hS.sel
 have h2:sn.worth<=d:=by rw [<- hsn];exact hge hS.sel
 have h4:wS C A nd.length<=B->wS W A nd.length<=d/\wS W A nd.length<=sn.bound/\∀t,QD W C nd B t 0->wS W A nd.length<=t.bound:=fun hc=>by
  have hX:Sel C nd B A:=⟨hAl,hAc,hc⟩
  exact ⟨hge hX,by rw [<- hsn];exact hS.lst.ge hlw hX,fun t ht=>J5 h ht hX⟩
 have hsp:=C9 sn hsl hfl at_ how by_ ha hh hb
 simp only [JS,I,Bl] at hsp
 repeat (first|refine ah ?_|refine aH ?_|refine ag ?_|refine aY ?_|refine aI ?_|refine au ?_|refine ak ?_|refine ae ?_|refine aB ?_|refine bV ?_)
 refine bg aK dO (hsp) ?_
 rintro _ ⟨t,rfl,hT⟩
 have htl:t.set.length<=9223372036854775807:=by have:=hT.set;omega
 have hck:=DW h t htl
 simp only [jX,JS,I,Bl,Gs,hlw,hlc,hnl] at hck
 refine ⟨dF,_,_,_,_,_,dA,(by decide),aQ,?_⟩
 repeat (first|refine ah ?_|refine aF ?_|refine ag ?_|refine ak ?_|refine ae ?_|refine aA ?_|refine dh ?_|refine gU gY ?_)
 refine bg aK dO (oW) ?_
 rintro _ rfl
 refine ⟨dF,_,_,_,_,_,dA,(by decide),aQ,?_⟩
 obtain ⟨wa,hwa⟩:∃x,wS W A nd.length=x:=⟨_,rfl⟩
 obtain ⟨ca,hca⟩:∃x,wS C A nd.length=x:=⟨_,rfl⟩
 rw [hwa,hca] at h4 ⊢
 by_cases hc:ca<=B
 ·obtain ⟨i1,i2,i3⟩:=h4 hc
  repeat (first|refine ah ?_|refine aH ?_|refine aF ?_|refine ag ?_|refine aI ?_|refine ak ?_|refine ae ?_|refine dI ?_|refine bu ?_|refine aA ?_|refine bV ?_)
  refine bg aK (by simp (disch:=omega) only [dL,fK,HV.thaw,dC,aW,aZ,if_true,if_false,reduceIte,Nat.reduceEqDiff,stripL,HV.strip,fH,dQ,eU,Nat.mul_one,List.cons_append,List.nil_append,List.append_nil,I,Bl,T3,Es,List.getD_cons_zero,List.getD_cons_succ,HL.ints_strip,HL.bools_strip,eH,dZ];try rfl) (hck) ?_
  rintro _ ⟨e,rfl,he⟩
  refine ⟨dF,_,_,_,_,_,dA,(by decide),aQ,?_⟩
  by_cases h0:e=0
  ·subst h0
   have i4:=i3 t he
   repeat (first|refine ah ?_|refine aH ?_|refine aF ?_|refine ag ?_|refine aX ?_|refine aJ ?_|refine aI ?_|refine au ?_|refine ak ?_|refine ae ?_|refine aB ?_|refine dI ?_|refine bu ?_|refine aA ?_)
   refine bg aK dO (ht_lives29) ?_
   rintro _ rfl
   refine ⟨dF,_,_,_,_,_,dA,(by decide),aQ,?_⟩
   repeat (first|refine ah ?_|refine ag ?_|refine aJ ?_)
   refine ay ?_
   rfl
  ·repeat (first|refine ah ?_|refine aH ?_|refine bT ?_|refine aF ?_|refine ag ?_|refine aX ?_|refine aJ ?_|refine aI ?_|refine au ?_|refine ak ?_|refine ae ?_|refine aB ?_|refine dI ?_|refine aA ?_)
   refine bg aK dO (ht_lives29) ?_
   rintro _ rfl
   refine ⟨dF,_,_,_,_,_,dA,(by decide),aQ,?_⟩
   repeat (first|refine ah ?_|refine ag ?_|refine aJ ?_)
   refine ay ?_
   rfl
 ·repeat (first|refine ah ?_|refine aH ?_|refine bT ?_|refine aF ?_|refine ag ?_|refine aJ ?_|refine aI ?_|refine au ?_|refine ak ?_|refine ae ?_|refine aB ?_|refine rf (by rfl) (by rfl) ?_|refine dI ?_|refine aA ?_)
  refine bg aK dO (ht_lives29) ?_
  rintro _ rfl
  refine ⟨dF,_,_,_,_,_,dA,(by decide),aQ,?_⟩
  repeat (first|refine ah ?_|refine ag ?_|refine aJ ?_)
  refine ay ?_
  rfl
end Go.Proofs.Yteamkjblpglliaa
