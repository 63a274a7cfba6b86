import Derived.Test.YtlbdmpjnmfmnfaaDmI
import Derived.Test.YtlbdmpjnmfmnfaaMnE
import Derived.Test.YtlbdmpjnmfmnfaaHlLo
import Derived.Test.YtlbdmpjnmfmnfaaHl5
import Derived.Test.YtlbdmpjnmfmnfaaDmF
import Derived.Test.YtlbdmpjnmfmnfaaHlW
import Derived.Test.YtlbdmpjnmfmnfaaHlCv
import Derived.Test.YtlbdmpjnmfmnfaaFtX
import Derived.Test.YtlbdmpjnmfmnfaaFt9
set_option linter.unusedSimpArgs false
set_option linter.unusedVariables false
set_option maxHeartbeats 8000000
section
namespace Go.Proofs.Ytlbdmpjnmfmnfaa
open Go.RowKit Go.HL Go.FS Go.MN
theorem aa4 {k:List HI} {rs:List Nat} {Kp:HV->Prop} {x:HCode} [hp:Plain k] (fin:List Bool) (al:List A) (sz:Int) (M:List (List Bool)) (R:List (List Nat)) (F:List Bool) (i:Nat) (b:List Bool) (hb:M.getD i default=b) (hi:i<M.length) (hn:fin.length<=10) (hF:F.length<=100000)
  (h:hx Try.prog (.c x::k) (finish rs Kp) ⟨[(1,.int .i64 sz),(2,.ptr [.sl fin.length (HL.bools fin),.sl al.length (recs aC al)] 0),(4,.pref 0 [] 0),(7,.ptr [.fn 90 [.ptr (jX fin.length al) 0]] 0),(8,.fn 91 [.ptr [.sl fin.length (HL.bools fin),.sl al.length (recs aC al)] 0,.ptr [.fn 90 [.ptr (jX fin.length al) 0]] 0]),(10,.pref 1 [] 0),(11,.fn 93 [.pref 2 [] 0,.pref 1 [] 0]),(12,.pref 3 [] 0),(13,.int .i64 (i:Nat))],[(0,.optr [.int .i64 0,.nils,.nils]),(1,.optr [.osl 1 M.length (iO (M.map (lf fin.length)))]),(2,.optr [.omap ⟨.str,none⟩ (((M.map (lf fin.length)).map xe).map vW) (lU M.length)]),(3,.optr [.int .i64 sz,.osl 1 R.length (iO (rI R)),.osl 1 (F++[kw fin b]).length (HL.bools (F++[kw fin b]))])],4⟩):hx Try.prog (.c XP::.b 1::.c x::k) (finish rs Kp) ⟨[(1,.int .i64 sz),(2,.ptr [.sl fin.length (HL.bools fin),.sl al.length (recs aC al)] 0),(4,.pref 0 [] 0),(7,.ptr [.fn 90 [.ptr (jX fin.length al) 0]] 0),(8,.fn 91 [.ptr [.sl fin.length (HL.bools fin),.sl al.length (recs aC al)] 0,.ptr [.fn 90 [.ptr (jX fin.length al) 0]] 0]),(10,.pref 1 [] 0),(11,.fn 93 [.pref 2 [] 0,.pref 1 [] 0]),(12,.pref 3 [] 0),(13,.int .i64 (i:Nat))],[(0,.optr [.int .i64 0,.nils,.nils]),(1,.optr [.osl 1 M.length (iO (M.map (lf fin.length)))]),(2,.optr [.omap ⟨.str,none⟩ (((M.map (lf fin.length)).map xe).map vW) (lU M.length)]),(3,.optr [.int .i64 sz,.osl 1 R.length (iO (rI R)),.osl 1 F.length (HL.bools F)])],4⟩:=by
 have hany:=Ym fin al (lf fin.length b) (by have:=J3 fin.length b;omega) (fun p hp=>by have:=mem_lf.1 hp;omega)
 rw [ZP] at hany
 have hget:(iO (M.map (lf fin.length))).getD i .dead=.osl 1 (lf fin.length b).length (HL.ints (lf fin.length b)):=by
  rw [<- hb];simp [iO,hi]
 generalize lf fin.length b=l at hany hget
 generalize hL:iO (M.map (lf fin.length))=LL at hget h ⊢
 have hLL:LL.length=M.length:=by rw [<- hL];simp [iO]
 generalize kw fin b=z at hany h
 unfold XP
 refine WS (DS.of fun _ _ r=>r=.bool z) aA ?_
 refine EG (.pref 3 [] 2) _ rfl rfl (by trivial) rfl aA ?_
 refine EG (.ref 3 [2] 1 0 F.length) _ rfl rfl (bF rfl) rfl aA ?_
 refine EG (.ref 1 [0] 1 0 M.length) _ rfl rfl (bF rfl) rfl aA ?_
 refine EG (.int .i64 (i:Nat)) _ rfl rfl (by trivial) rfl aA ?_
 refine EG (side:=(0:Int)<=i/\(i:Int)<M.length/\1=1) (.pref 1 [0] i) _ rfl ?_ ⟨by omega,by omega,rfl⟩ rfl aA ?_
 ·show (HV.pref 1 [0] (0+(i:Int).toNat*1),([]:List Upd),(0:Int)<=i/\(i:Int)<M.length/\1=1)=_
  rw [show 0+(i:Int).toNat*1=i by omega]
 refine EG (side:=i<LL.length) (.ref 1 [0,i] 1 0 l.length) _ rfl ?_ (by omega) rfl aA ?_
 ·show (Go.HL.look 1 [0] i (LL.getD i .dead),([]:List Upd),i<LL.length)=_
  rw [hget];rfl
 refine EG (.fn 94 [.ptr [.sl fin.length (HL.bools fin),.sl al.length (recs aC al)] 0]) _ rfl rfl (by trivial) rfl aA ?_
 refine abg (f:=79) (vs:=[.ref 1 [0,i] 1 0 l.length,.fn 94 [.ptr [.sl fin.length (HL.bools fin),.sl al.length (recs aC al)] 0]]) (args:=[.sl l.length (HL.ints l),.fn 94 [.ptr [.sl fin.length (HL.bools fin),.sl al.length (recs aC al)] 0]]) rfl rfl ?_ hany ⟨_,rfl,rfl⟩ rfl ?_
 ·simp (disch:=omega) only [cZ,HV.thaw,bM,au,ax,if_true,if_false,reduceIte,Nat.reduceEqDiff,List.getD_cons_zero,hget]
  rw [Nat.mul_one,dw _ (by simp [HL.ints]),HL.ints_strip]
 rintro _ rfl -
 refine ⟨by simp [HV.noRd],_,_,_,_,_,_,rfl,by simp [stride],rfl,by kernel_rfl,(by simp only [tV,Ae];rfl),?_⟩
 refine Y4 (.ref 132 [] 1 0 1) [.put 132 (.osl 1 1 [.bool z])] rfl rfl rfl ⟨⟨trivial,trivial⟩,rfl,rfl⟩ rfl rfl aA (by simp only [tV,Ae];rfl) ?_
 refine Y4 (W:=[6,7,296,297]) (R:=[6,264]) (side:=(1=1/\0+1*1<=1/\true=true)/\(F.length+1)*1<=140737488355328/\F.length+1<=maxLen/\1=1/\0+F.length*1<=(HL.bools F).length) (.ref 148 [] 1 0 (F.length+1)) [.put 3 (.optr [.int .i64 sz,.osl 1 R.length (iO (rI R)),.dead]),.put 148 (HV.osl 1 (F.length+1) (HL.bools (F++[z])))] rfl rfl ?_ ⟨⟨rfl,by omega,rfl⟩,by omega,by unfold maxLen;omega,rfl,by simp [HL.bools]⟩ rfl rfl aA (by simp only [tV,Ae];rfl) ?_
 ·have hwn:win (HL.bools F) 0 (F.length*1)++[HV.bool z]=HL.bools (F++[z]):=by
   rw [Nat.mul_one,dw _ (by simp [HL.bools])];simp [HL.bools]
  have hng:ax (.optr [.int .i64 sz,.osl 1 R.length (iO (rI R)),.osl 1 F.length (HL.bools F)]) [2]=.osl 1 F.length (HL.bools F):=rfl
  refine (Jf (L:=fun j=>au j ((132,HV.osl 1 1 [HV.bool z])::[(0,.optr [.int .i64 0,.nils,.nils]),(1,.optr [.osl 1 M.length (iO (M.map (lf fin.length)))]),(2,.optr [.omap ⟨.str,none⟩ (((M.map (lf fin.length)).map xe).map vW) (lU M.length)]),(3,.optr [.int .i64 sz,.osl 1 R.length (iO (rI R)),.osl 1 F.length (HL.bools F)])])) (fr:=148) (bytes:=1) (off:=0) (n:=F.length) (sz2:=1) (id:=3) (p:=[2]) (w:=.ref 132 [] 1 0 1) (fl:=true) (sz:=1) (us:=[]) (m:=1) (ws:=[HV.bool z]) (cond:=1=1/\0+1*1<=1/\true=true) rfl hng).trans ?_
  simp only [hwn]
  rfl
 refine EG (.pref 3 [] 2) _ rfl rfl (by trivial) rfl aA ?_
 refine Y4 (W:=[296,297,6,7]) (R:=[6,296]) (side:=((0=0/\F.length+1=F.length+1)/\True)/\[HV.osl 1 (F.length+1) (HL.bools (F++[z]))].length=1/\0<1/\2+1<=3/\(false=true->bC [HV.osl 1 (F.length+1) (HL.bools (F++[z]))]=true)) .dead [.put 148 .dead,.kill 3 0,.put 3 (.optr [.int .i64 sz,.osl 1 R.length (iO (rI R)),HV.osl 1 (F.length+1) (HL.bools (F++[z]))])] rfl rfl rfl ⟨⟨⟨rfl,rfl⟩,trivial⟩,rfl,Nat.zero_lt_one,by omega,fun h=>absurd h (by decide)⟩ rfl rfl aA (by simp only [tV,Ae];rfl) ?_
 refine acu rfl ?_
 rw [show (F++[z]).length=F.length+1 by simp] at h
 refine Az ?_
 exact bV [1,2,4,7,8,10,11,12,13] _ rfl h
end Go.Proofs.Ytlbdmpjnmfmnfaa
end
section
namespace Go.HL
open Go.RowKit
section
variable {P:Program} {k:List HI} {Q:HE->St->Prop}
theorem UK {ops:List HOper} {masks:List Nat} (m n:Nat) {sl st:List (Nat×HV)} {nx:Nat} (h1:lQ masks ops=true) (hf:Nk masks ops m=true) (hmn:Nat.ble m n=true) (h0:Cm masks ops m n=true) (h2:J9 masks (ops.take n)=true) (D:FuncId->List HV->HV->Prop) {sl':List (Nat×HV)} (hs:TK ops (List.range m) sl=sl')
  (h:hx P (.o (CS P D) (ops.take n) ((ops.take n).drop m) m::.c (.region none (ops.drop n))::k) Q ⟨sl',st,nx⟩):hx P (.c (.region (some masks) ops)::k) Q ⟨sl,st,nx⟩:=by
 subst hs
 refine Ri (Weak.refl _) ?_
 refine ⟨h1,fun _=>.inr (.inr ⟨m,n,DS.of D,hf,bF hmn,h0,?_⟩)⟩
 unfold hx at h
 have hn:n<=ops.length:=by
  simp only [Cm,aZ,decide_eq_true_eq] at h0
  exact h0.1.1
 have:=Su h2 ((ops.take n).drop m) m [] ⟨TK ops (List.range m) sl,st,nx⟩ rfl rfl (by simp) h
 rw [rH,eu,Gx hn] at this
 refine FH ?_ this
 rintro S M ⟨s',a,b,c,s2,d,e⟩
 exact ⟨s',s2,a,b,c,d,e⟩
end
end Go.HL
end
section
namespace Go.Proofs.Ytlbdmpjnmfmnfaa
open Go.RowKit Go.HL Go.FS Go.MN
theorem aaB {k:List HI} {rs:List Nat} {Kp:HV->Prop} {xc:HCode} [hp:Plain k] (fin:List Bool) (al:List A) (sz:Int) (M M':List (List Bool)) (row:List Nat) (R:List (List Nat)) (F:List Bool) (i s y:Nat) (b:List Bool) (δ:List Bool->Nat->List Bool) (hδ:SpD al fin.length δ)
  (hk:∀a∈al,0<=a.f/\a.f<fin.length/\0<=a.t/\a.t<fin.length) (hn:fin.length<=10) (ha:al.length<=8192) (hb:M.getD i default=b) (hi:i<M.length) (hMl:M.length<=1024) (hrow:row.length<=64) (hs:s<=64)
  (hM':insL (M.map (lf fin.length)) (lf fin.length (δ b s))=M'.map (lf fin.length)) (hy:ix (M'.map (lf fin.length)) (lf fin.length (δ b s))=y)
  (h:hx Try.prog (.c xc::k) (finish rs Kp) ⟨[(1,.int .i64 sz),(2,.ptr [.sl fin.length (HL.bools fin),.sl al.length (recs aC al)] 0),(4,.pref 0 [] 0),(7,.ptr [.fn 90 [.ptr (jX fin.length al) 0]] 0),(8,.fn 91 [.ptr [.sl fin.length (HL.bools fin),.sl al.length (recs aC al)] 0,.ptr [.fn 90 [.ptr (jX fin.length al) 0]] 0]),(10,.pref 1 [] 0),(11,.fn 93 [.pref 2 [] 0,.pref 1 [] 0]),(12,.pref 3 [] 0),(13,.int .i64 (i:Nat)),(14,.ref 4 [] 1 0 (row++[y]).length),(47,.int .i64 sz),(48,.int .i64 (s:Nat))],[(0,.optr [.int .i64 0,.nils,.nils]),(1,.optr [.osl 1 M'.length (iO (M'.map (lf fin.length)))]),(2,.optr [.omap ⟨.str,none⟩ (((M'.map (lf fin.length)).map xe).map vW) (lU M'.length)]),(3,.optr [.int .i64 sz,.osl 1 R.length (iO (rI R)),.osl 1 F.length (HL.bools F)]),(4,.osl 1 (row++[y]).length (HL.ints (nI (row++[y]))))],5⟩):hx Try.prog (.c X9::.b 3::.c xc::k) (finish rs Kp) ⟨[(1,.int .i64 sz),(2,.ptr [.sl fin.length (HL.bools fin),.sl al.length (recs aC al)] 0),(4,.pref 0 [] 0),(7,.ptr [.fn 90 [.ptr (jX fin.length al) 0]] 0),(8,.fn 91 [.ptr [.sl fin.length (HL.bools fin),.sl al.length (recs aC al)] 0,.ptr [.fn 90 [.ptr (jX fin.length al) 0]] 0]),(10,.pref 1 [] 0),(11,.fn 93 [.pref 2 [] 0,.pref 1 [] 0]),(12,.pref 3 [] 0),(13,.int .i64 (i:Nat)),(14,.ref 4 [] 1 0 row.length),(15,.int .i64 (s:Nat)),(47,.int .i64 sz),(48,.int .i64 (s:Nat))],[(0,.optr [.int .i64 0,.nils,.nils]),(1,.optr [.osl 1 M.length (iO (M.map (lf fin.length)))]),(2,.optr [.omap ⟨.str,none⟩ (((M.map (lf fin.length)).map xe).map vW) (lU M.length)]),(3,.optr [.int .i64 sz,.osl 1 R.length (iO (rI R)),.osl 1 F.length (HL.bools F)]),(4,.osl 1 row.length (HL.ints (nI row)))],5⟩:=by
 have hle:=J3 fin.length b
 have hby:=aav al fin.length (by omega) ha (lf fin.length b) s (by omega) (fun p hp=>by have:=mem_lf.1 hp;omega)
 change HT _ _ [.sl (lf fin.length b).length (HL.ints (lf fin.length b)),.int .i64 (s:Nat),.ptr (jX fin.length al) 0] _ at hby
 have hbl:=FO al s (lf fin.length b)
 have hbl2:(lf fin.length b).length*al.length<=10*8192:=CV (by omega) ha
 have hwd:=Nl fin al hk (by omega) ha (vS al (lf fin.length b) s) (by omega) (fun j hj=>by
  obtain ⟨a,h1,_,_,rfl⟩:=mem_byL.1 hj
  have:=hk a h1;omega)
 change HTM _ _ _ (fun r=>∃rb:List Bool,rb.length=fin.length/\(∀i,rb.getD i false=true <-> Rn (fun i=>vS al [(i:Int)] (-1)) (vS al (lf fin.length b) s) i)/\r=.osl 1 (lf fin.length rb).length (HL.ints (lf fin.length rb))) at hwd
 have hget:(iO (M.map (lf fin.length))).getD i .dead=.osl 1 (lf fin.length b).length (HL.ints (lf fin.length b)):=by
  rw [<- hb];simp [iO,hi]
 have hiO:(iO (M.map (lf fin.length))).length=M.length:=by simp [iO]
 have hpl:=Og (M.map (lf fin.length)) (lf fin.length (δ b s)) (by have:=J3 fin.length (δ b s);omega) (by rw [List.length_map];omega) (fun p hp=>by have:=mem_lf.1 hp;omega) (fun u hu p hp=>by
  obtain ⟨c,hc,rfl⟩:=zl020.1 hu
  have:=mem_lf.1 hp;omega)
 rw [hM',hy] at hpl
 simp only [EM,E5,List.length_map] at hpl
 have hwr:win (HL.ints (nI row)) 0 row.length=HL.ints (nI row):=dw _ (by simp [HL.ints,nI])
 have hap:=yJ row y
 have hrl:(row++[y]).length=row.length+1:=by simp
 unfold X9
 refine UK 3 9 aA aA rfl aA aA (fun _ _ _=>False) (sl':=[(53,.fn 91 [.ptr [.sl fin.length (HL.bools fin),.sl al.length (recs aC al)] 0,.ptr [.fn 90 [.ptr (jX fin.length al) 0]] 0]),(52,.fn 93 [.pref 2 [] 0,.pref 1 [] 0]),(51,.ref 4 [] 1 0 row.length),(1,.int .i64 sz),(2,.ptr [.sl fin.length (HL.bools fin),.sl al.length (recs aC al)] 0),(4,.pref 0 [] 0),(7,.ptr [.fn 90 [.ptr (jX fin.length al) 0]] 0),(8,.fn 91 [.ptr [.sl fin.length (HL.bools fin),.sl al.length (recs aC al)] 0,.ptr [.fn 90 [.ptr (jX fin.length al) 0]] 0]),(10,.pref 1 [] 0),(11,.fn 93 [.pref 2 [] 0,.pref 1 [] 0]),(12,.pref 3 [] 0),(13,.int .i64 (i:Nat)),(14,.ref 4 [] 1 0 row.length),(15,.int .i64 (s:Nat)),(47,.int .i64 sz),(48,.int .i64 (s:Nat))]) rfl ?_
 simp only [List.take_succ_cons,List.take_zero,List.drop_succ_cons,List.drop_zero]
 refine fP (zA @hget @hiO) ⟨?_⟩
 refine uH (by rfl) aG (zW @hget) (hby) ?_
 rintro _ rfl
 refine zG ⟨?_⟩
 refine zF ⟨?_⟩
 refine sJ [] [] (by rfl) G6 Aw OM rfl (by decide) (hwd) ?_
 rintro _ outs ⟨rb,hrl2,hrc,rfl⟩ hol
 obtain rfl:=gI hol
 obtain rfl:=ZN hk hδ hrl2 hrc
 refine ⟨_,_,_,_,_,IB,(by decide),DI,?_⟩
 refine zF ⟨?_⟩
 refine sJ [1,2] [2,1] (by rfl) G6 Aw OM rfl (by decide) (hpl) ?_
 rintro _ _ ⟨rfl,rfl⟩ -
 refine ⟨_,_,_,_,_,IB,(by decide),DI,?_⟩
 refine fP (zA @hwr @hap) ⟨?_⟩
 rw [hrl] at h
 exact bV [1,2,4,7,8,10,11,12,13,14,47,48] _ rfl h
theorem Xf (sz:Int) (R:List (List Nat)) (F:List Bool):bK ⟨sz,rI R,F⟩=fun i=>R.getD i []:=by
 funext i
 simp only [bK,rI,nI,bf,fZ]
 cases R[i]? with
 | none=>rfl
 | some v=>show List.map Int.toNat (List.map (fun k:Nat=>(k:Int)) v)=v;rw [kZ];exact List.map_id'' (fun k=>rfl) v
theorem Xy (sz:Int) (R:List (List Nat)) (F:List Bool):iW ⟨sz,rI R,F⟩=fun i=>F.getD i false:=rfl
theorem QJ {δ:List Bool->Nat->List Bool} {x:List Bool} {N:Nat} {sz:Int} (hs:1<=sz/\sz<=64) (h:Done δ sz.toNat x N) (hN:N<=2048) {F:List Bool} (hF:F.length=N):okD ⟨sz,rI (aK δ sz.toNat x N).2,F⟩=true:=by
 have hl:(aK δ sz.toNat x N).2.length=N:=gG N
 have ok:=LC h
 have h0:0<N:=h.pos
 simp only [okD,aZ,decide_eq_true_eq,jf,hl,zl016]
 refine ⟨⟨hs.1,hs.2,h0,hN,hF⟩,?_⟩
 intro r hr
 obtain ⟨q,hq,rfl⟩:=zl020.1 hr
 obtain ⟨i,hi,rfl⟩:=uD hq
 have e:(aK δ sz.toNat x N).2.getD i []=(aK δ sz.toNat x N).2[i]:=by rw [bf,bn hi];rfl
 have h1:=ok.len i (by omega)
 have h2:=ok.lt i (by omega)
 simp only [e] at h1 h2
 simp only [rowOk,aZ,decide_eq_true_eq,zl016,zH]
 refine ⟨by omega,fun y hy=>?_⟩
 obtain ⟨z,hz,rfl⟩:=zl020.1 hy
 have:=h2 z hz
 simp only [AO,decide_eq_true_eq];omega
open Classical in
def Ci (fin:List Bool) (al:List A) (sz:Int) (r:HV):Prop:=if okF fin al=true/\1<=sz/\sz<=64 then ∃rows fn,DomR fin al sz.toNat rows fn/\r=.tup [.agg (dC ⟨sz,rI rows,fn⟩),.int .i64 0] else r=.tup [.agg [.int .i64 0,.nils,.nils],.int .i64 1]
theorem QR {fin:List Bool} {al:List A} {sz:Int} (hv:okF fin al=true) (hs:1<=sz/\sz<=64) {rows:List (List Nat)} {fn:List Bool} (h:DomR fin al sz.toNat rows fn):Ci fin al sz (.tup [.agg (dC ⟨sz,rI rows,fn⟩),.int .i64 0]):=by
 unfold Ci;rw [if_pos ⟨hv,hs.1,hs.2⟩];exact ⟨rows,fn,h,rfl⟩
theorem Aq {fin:List Bool} {al:List A} {sz:Int} (h:¬ (okF fin al=true/\1<=sz/\sz<=64)):Ci fin al sz (.tup [.agg [.int .i64 0,.nils,.nils],.int .i64 1]):=by
 unfold Ci;rw [if_neg h]
theorem QZ {fin:List Bool} {al:List A} {sz:Int} {δ:List Bool->Nat->List Bool} {x:List Bool} {N:Nat} (hδ:SpD al fin.length δ) (hx:SpS al fin.length x) (h:Done δ sz.toNat x N) {rows:List (List Nat)} {fn:List Bool}
  (hm:MinOf (bK ⟨sz,rI (aK δ sz.toNat x N).2,(aK δ sz.toNat x N).1.map (kw fin)⟩) (iW ⟨sz,rI (aK δ sz.toNat x N).2,(aK δ sz.toNat x N).1.map (kw fin)⟩) N sz.toNat rows fn):DomR fin al sz.toNat rows fn:=by
 rw [Xf,Xy] at hm
 exact ⟨δ,x,N,hδ,hx,h,hm⟩
section
variable {al:List A} {n sz:Nat} {δ:List Bool->Nat->List Bool} {x:List Bool}
theorem Ag (hδ:SpD al n δ) (hx:SpS al n x):∀i,∀b∈(aK δ sz x i).1,b.length=n
 | 0=>by simp [aK,hx.1]
 | i+1=>pV (Ag hδ hx i) sz fun t _=>(hδ _ t).1
theorem Am (hδ:SpD al n δ) (hx:SpS al n x) (hn:n<=10) (i:Nat):(aK δ sz x i).1.length<=1024:=by
 have h1:=Ko (nG (δ:=δ) (sz:=sz) (a:=x) i) (Ag hδ hx i)
 have h2:2 ^ n<=2 ^ 10:=Ce (by omega) hn
 have h3:(2:Nat) ^ 10=1024:=by decide
 omega
end
theorem Jd {p:Nat->Prop} (h:∃n,p n):∃n,p n/\∀m,m<n->¬ p m:=by
 obtain ⟨n,hn⟩:=h
 have key:∀n,p n->∃n,p n/\∀m,m<n->¬ p m:=fun n=>Nat.strongRecOn n fun n ih hn=>by
  by_cases e:∃m,m<n/\p m
  ·obtain ⟨m,h1,h2⟩:=e;exact ih m h1 h2
  ·exact ⟨n,hn,fun m h1 h2=>e ⟨m,h1,h2⟩⟩
 exact key n hn
theorem Ry {α:Type} [DecidableEq α] [Inhabited α] {δ:α->Nat->α} {sz:Nat} {a:α} {B:Nat} (h:∀i,(aK δ sz a i).1.length<=B):∃N,Done δ sz a N:=by
 obtain ⟨N,h1,h2⟩:=Jd (p:=fun N=>(aK δ sz a N).1.length<=N) ⟨B,h B⟩
 refine ⟨N,?_,fun j hj=>by have:=h2 j hj;omega⟩
 cases N with
 | zero=>simp [aK] at h1
 | succ N =>
  have h3:=h2 N (by omega)
  obtain ⟨r,q,e1,e2⟩:=sW (δ:=δ) (sz:=sz) (a:=a) (i:=N) (j:=N+1) (by omega)
  have h4:=congrArg List.length e1
  rw [dQ] at h4
  omega
theorem aaU (nx:Nat->List Nat) (fn:Nat->Bool) (n:Nat):∃c m,Cls nx fn n c m:=by
 have hex:∃k,MN.cnt nx fn n (k+1)=MN.cnt nx fn n k:=by
  apply Sm
  intro hno
  have key:∀k,k<=MN.cnt nx fn n k:=by
   intro k
   induction k with
   | zero=>exact dS _
   | succ k ih =>
    have h1:=MN.cnt_up (nx:=nx) (fn:=fn) (n:=n) k
    have:MN.cnt nx fn n (k+1)≠MN.cnt nx fn n k:=fun e=>hno ⟨k,e⟩
    omega
  have h1:=key (n+1)
  have h2:=MN.cnt_le (nx:=nx) (fn:=fn) (n:=n) (n+1)
  omega
 obtain ⟨k,h1,h2⟩:=Jd hex
 exact ⟨_,_,⟨k,rfl,rfl,h1,h2⟩⟩
theorem abq {nx:Nat->List Nat} (fn:Nat->Bool) {n sz:Nat} (ok:Ok nx n sz):∃rows fin,MinOf nx fn n sz rows fin:=by
 obtain ⟨c,m,h⟩:=aaU nx fn n
 obtain ⟨N,hN⟩:=Ry (B:=n) (fun i=>y5 ok h i)
 exact ⟨_,_,c,m,N,h,hN,rfl,rfl⟩
theorem DomR.ex (fin:List Bool) (al:List A) (sz:Nat) (hn:fin.length<=10):∃rows fn,DomR fin al sz rows fn:=by
 obtain ⟨δ,hδ⟩:=SpD.ex al fin.length
 obtain ⟨x,hx⟩:=SpS.ex al fin.length
 obtain ⟨N,hN⟩:=Ry (B:=1024) (fun i=>Am (sz:=sz) hδ hx hn i)
 obtain ⟨rows,fn,h⟩:=abq (fun i=>((aK δ sz x N).1.map (kw fin)).getD i false) (LC hN)
 exact ⟨rows,fn,δ,x,N,hδ,hx,hN,h⟩
theorem DomR.okD {fin:List Bool} {al:List A} {sz:Int} (hn:fin.length<=10) (hs:1<=sz/\sz<=64) {rows:List (List Nat)} {fn:List Bool} (h:DomR fin al sz.toNat rows fn):okD ⟨sz,rI rows,fn⟩=true:=by
 obtain ⟨δ,x,N,h1,h2,h3,h4⟩:=h
 obtain ⟨g1,g2,g3,g4⟩:=h4.len (LC h3)
 have h5:=Am (sz:=sz.toNat) h1 h2 hn N
 have h6:=h3.1
 simp only [Go.Proofs.Ytlbdmpjnmfmnfaa.okD,aZ,decide_eq_true_eq,jf,zl016]
 refine ⟨⟨hs.1,hs.2,g1,by omega,g3⟩,?_⟩
 intro r hr
 obtain ⟨q,hq,rfl⟩:=zl020.1 hr
 obtain ⟨e1,e2⟩:=g4 q hq
 simp only [rowOk,aZ,decide_eq_true_eq,zl016,zH]
 refine ⟨by omega,fun y hy=>?_⟩
 obtain ⟨z,hz,rfl⟩:=zl020.1 hy
 have:=e2 z hz
 simp only [AO,decide_eq_true_eq];omega
theorem ZZ (R:List (List Nat)) (u:List Nat):MF (fun i=>R.getD i []) 0 u=Yg R 0 u:=rfl
theorem SG:∀ {w:List Int},(∀x∈w,0<=x)->(w.map Int.toNat).map (fun t:Nat=>(t:Int))=w
 | [],_=>rfl
 | x::w,h=>by
  have h0:=h x (by simp)
  have ih:(w.map Int.toNat).map (fun t:Nat=>(t:Int))=w:=SG fun y hy=>h y (yh _ hy)
  simp only [dP,ih]
  congr 1;omega
theorem Zy {fin:List Bool} {al:List A} (hv:okF fin al=true) {rows:List (List Nat)} {fn:List Bool} (h:DomR fin al (3:Int).toNat rows fn) {w:List Int} (hw:∀x∈w,0<=x/\x<3) (hl:w.length<=1024) :
  ((Eu fin al w 8).2=0\/(Eu fin al w 8).2=4)/\iW ⟨3,rI rows,fn⟩ (MF (bK ⟨3,rI rows,fn⟩) 0 (w.map Int.toNat))=(decide ((Eu fin al w 8).2=4) || decide (0<(Eu fin al w 8).1.length)):=by
 have hk:∀a∈al,0<=a.f/\a.f<fin.length/\0<=a.t/\a.t<fin.length:=fun a ha=>by have:=gu hv ha;omega
 have ho:BO fin al w 8:=⟨hv,by omega,by omega,hl⟩
 have hA:=FN hv
 have g:=(h.lang hk (u:=w.map Int.toNat) fun t ht=>by
  obtain ⟨y,hy,rfl⟩:=zl020.1 ht
  have:=hw y hy
  show y.toNat<3
  omega).2
 rw [SG fun y hy=>(hw y hy).1] at g
 rw [Xf,Xy,ZZ]
 by_cases he:∃l,Lst fin al w 8 l
 ·obtain ⟨l,hl⟩:=he
  rw [Yv ho hl]
  refine ⟨.inl rfl,?_⟩
  rw [Jz,g]
  simp only [show decide ((0:Int)=4)=false from rfl,vY,decide_eq_true_eq]
  constructor
  ·rintro ⟨v,hv⟩
   exact List.length_pos_of_mem ((hl.mem hA).2 hv)
  ·intro hp
   obtain ⟨v,hv⟩:=List.exists_mem_of_length_pos hp
   exact ⟨v,(hl.mem hA).1 hv⟩
 ·rw [abI ho fun l hl=>he ⟨l,hl⟩]
  refine ⟨.inr rfl,?_⟩
  rw [Jz,g]
  refine ⟨fun _=>rfl,fun _=>?_⟩
  apply Sm
  intro hno
  obtain ⟨m,hm⟩:=abu (fin:=fin) (w:=w) hA (L:=[]) fun v hv=>absurd ⟨v,hv⟩ hno
  have hu:upto fin al w m=[]:=zl036.2 fun v hv=>hno ⟨v,((BX hA).1 hv).1⟩
  exact he ⟨[],m,hm,hu.symm,by simp⟩
end Go.Proofs.Ytlbdmpjnmfmnfaa
end
