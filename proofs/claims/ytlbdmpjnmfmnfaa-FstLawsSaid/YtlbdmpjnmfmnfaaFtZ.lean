import Derived.Test.YtlbdmpjnmfmnfaaFs2
import Derived.Test.YtlbdmpjnmfmnfaaHlFi
import Derived.Test.YtlbdmpjnmfmnfaaFs4
import Derived.Test.YtlbdmpjnmfmnfaaFsP
import Derived.Test.YtlbdmpjnmfmnfaaFsQ
import Derived.Test.YtlbdmpjnmfmnfaaHlLg
section
set_option linter.unusedSimpArgs false
set_option linter.unusedVariables false
namespace Go.Proofs.Ytlbdmpjnmfmnfaa
open Go.RowKit Go.HL Go.FS
theorem MN (l:List Bool) (h:0<l.length) (h2:l.length<=100000000):HT Try.prog 67 [.sl l.length (HL.bools l)] (fun r=>r=.osl 1 l.length (HL.bools l)):=by
 refine HT.of rfl aec (Nat.le_of_ble_eq_true rfl) ?_
 unfold c67
 simp only [aY,Nat.reduceAdd]
 repeat (first|refine ah ?_|refine af ?_|refine au ?_|refine ak ?_|refine ae ?_|refine aF ?_|refine bU ?_|refine bQ ?_|refine gV ?_|refine Ol (by rfl) (by omega) ?_)
 refine ay ?_
 rfl
def zV (a:A):A:=⟨a.f,a.o,a.i,a.t⟩
def NR (fin:List Bool) (al:List A):List Bool×List A:=if okF fin al=true then (fin,al.map zV) else ([],[])
set_option maxHeartbeats 8000000 in
theorem KO (fin:List Bool) (al:List A) (hf:fin.length<=9223372036854775807) (ha:al.length<=9223372036854775807):HT Try.prog 23 [.agg (iC fin al)] (fun r=>r=.agg (iC (NR fin al).1 (NR fin al).2)):=by
 refine HT.ofC rfl aen [2] rfl (Nat.le_of_ble_eq_true rfl) ?_
 unfold c23
 have hvd:=o9 fin al hf ha
 simp only [aY,Nat.reduceAdd]
 simp only [iC,jX] at hvd ⊢
 repeat (first|refine af ?_|refine ak ?_|refine ae ?_|refine fJ ?_|refine dU ?_|refine bP eH ?_)
 refine bY bz bW (hvd) ?_
 rintro _ rfl
 by_cases hv:okF fin al=true
 ·have ht:NR fin al=(fin,al.map zV):=if_pos hv
  rw [hv]
  refine ⟨bG,_,_,_,_,_,fU,(by decide),bu,?_⟩
  obtain ⟨h1,h2,h3⟩:=dR hv
  repeat (first|refine aZ ?_|refine af ?_|refine au ?_|refine ak ?_|refine ae ?_|refine aF ?_|refine gW (by rfl) ?_|refine aI ?_)
  refine bY bz bW (MN fin (by omega) (by omega)) ?_
  rintro _ rfl
  refine ⟨bG,_,_,_,_,_,fU,(by decide),bu,?_⟩
  repeat (first|refine ah ?_|refine aZ ?_|refine af ?_|refine aQ ?_|refine ak ?_|refine ae ?_|refine aB ?_|refine aI ?_|refine cO ?_|refine bP eH ?_|refine di ?_)
  refine fD 144 [1,4] [2,3,15,16,17] (⟨[(2,.pref 0 [] 0),(3,.pref 1 [] 0),(15,.sl al.length (recs aC al)),(16,.int .i64 al.length),(17,.int .i64 0)],[(0,.optr [.nils,.nils]),(1,.optr [.osl 1 fin.length (HL.bools fin),.osl 4 0 []])],2⟩:St) rfl rfl ?_
  refine cu [2,3,15,16,17] (fun k:Nat=>k<=al.length)
   (fun k=>⟨[(2,.pref 0 [] 0),(3,.pref 1 [] 0),(15,.sl al.length (recs aC al)),(16,.int .i64 al.length),(17,.int .i64 k)],[(0,.optr [.nils,.nils]),(1,.optr [.osl 1 fin.length (HL.bools fin),.osl 4 k (recs aC ((al.take k).map zV))])],2⟩)
   (fun k=>al.length - k) 0 (by omega) rfl ?_
  intro k hk
  by_cases hkl:k<al.length
  ·have hst:(al.take (k+1)).map zV=(al.take k).map zV++[zV (al.getD k default)]:=by rw [dw hkl,List.map_append];rfl
   have hml:((al.take k).map zV).length=k:=by simp;omega
   generalize (al.take k).map zV=ml at hst hml
   repeat (first|refine ah ?_|refine aU ?_|refine aZ ?_|refine af ?_|refine az ?_|refine bH ?_|refine ax ?_|refine ak ?_|refine ae ?_|refine aB ?_|refine fK ?_|refine aF ?_|refine aI ?_|refine bn ?_|refine dK ?_|refine cO ?_|refine bQ ?_|refine bP eH ?_|refine gV ?_|refine di ?_)
   exact dB [2,3,15,16,17] (k+1) hkl (by omega) (by simp only [hst,zV];rfl)
  ·obtain rfl:k=al.length:=by omega
   rw [List.take_length]
   refine bg 1 [2,3,16,17] ⟨[(2,.pref 0 [] 0),(3,.ptr (stripL [.osl 1 fin.length (HL.bools fin),.osl 4 al.length (recs aC (al.map zV))]) 0),(16,.int .i64 al.length),(17,.int .i64 al.length)],[(0,.optr [.nils,.nils])],1⟩ rfl ?_
   rw [jd]
   repeat (first|refine af ?_|refine az ?_|refine bK (by rfl) ?_|refine au ?_|refine ak ?_|refine ae ?_|refine bn ?_|refine cO ?_)
   refine ay ?_
   exact ⟨_,_,rfl,rfl,by rw [ht];simp only [iC,jX,List.length_map];rfl⟩
 ·have ht:NR fin al=([],[]):=if_neg hv
  rw [show okF fin al=false by simpa using hv]
  refine ⟨bG,_,_,_,_,_,fU,(by decide),bu,?_⟩
  repeat (first|refine af ?_|refine ax ?_|refine ak ?_|refine ae ?_|refine iI (by rfl) ?_|refine cO ?_|refine di ?_)
  refine fD 16 [1,4] [2] (⟨[(2,.pref 0 [] 0)],[(0,.optr [.osl 1 0 [],.osl 4 0 []])],1⟩:St) rfl rfl ?_
  refine jR 0 [2] ⟨[(2,.pref 0 [] 0)],[(0,.optr [.sl 0 [],.sl 0 []])],1⟩ rfl rfl ?_
  refine ay ?_
  exact ⟨_,_,rfl,rfl,by rw [ht];rfl⟩
end Go.Proofs.Ytlbdmpjnmfmnfaa
end
section
set_option linter.unusedSimpArgs false
set_option linter.unusedVariables false
namespace Go.Proofs.Ytlbdmpjnmfmnfaa
open Go.RowKit Go.HL Go.FS
section
variable {k:Nat->Bool}
theorem Ir {j n:Nat} (hj:j<n) (hk:k j=true):∃r,(List.range n).filter k=(List.range j).filter k++j::r:=by
 obtain ⟨m,rfl⟩:∃m,n=j+(m+1):=⟨n - j - 1,by omega⟩
 refine ⟨((List.range m).map fun x=>j+(x+1)).filter k,?_⟩
 rw [List.range_add,List.filter_append]
 congr 1
 rw [List.range_succ_eq_map,List.map_cons,List.filter_cons_of_pos (by simpa using hk),List.map_map]
 rfl
theorem vV {j n:Nat} (hj:j<n) (hk:k j=true):((List.range n).filter k)[cnt k j]?=some j:=by
 obtain ⟨r,hr⟩:=Ir hj hk
 rw [hr]
 show ((List.range j).filter k++j::r)[((List.range j).filter k).length]?=_
 rw [List.getElem?_append_right (Nat.le_refl _)]
 simp
theorem cnt_lt {j n:Nat} (hj:j<n) (hk:k j=true):cnt k j<cnt k n:=by
 have:=vV hj hk
 exact (List.getElem?_eq_some_iff.1 this).1
theorem FV {fin:List Bool} {j n:Nat} (hj:j<n) (hk:k j=true):(lL k fin n).getD (cnt k j) false=fin.getD j false:=by
 unfold lL
 rw [List.getD_eq_getElem?_getD,List.getElem?_map,vV hj hk];rfl
theorem mem_arcT {l:List A} {b:A}:b∈qG k l <-> ∃a∈l,k a.f.toNat=true/\k a.t.toNat=true/\b=⟨cnt k a.f.toNat,a.i,a.o,cnt k a.t.toNat⟩:=by
 unfold qG
 rw [List.mem_filterMap]
 constructor
 ·rintro ⟨a,ha,h⟩
  split at h
  ·rename_i hc
   rw [Bool.and_eq_true] at hc
   exact ⟨a,ha,hc.1,hc.2,by simpa using h.symm⟩
  ·cases h
 ·rintro ⟨a,ha,h1,h2,rfl⟩
  exact ⟨a,ha,by rw [h1,h2];rfl⟩
end
section
variable {fin:List Bool} {al:List A}
abbrev Rch (al:List A) (j:Nat):Prop:=Rc al (·.f) (·.t) (·=0) j
abbrev YQ (fin:List Bool) (al:List A) (j:Nat):Prop:=Rc al (·.t) (·.f) (fun j=>fin.getD j false=true) j
theorem Nw {j:Nat} (hv:okF fin al=true) (h:YQ fin al j):j<fin.length:=by
 cases h with
 | on h =>
  rcases Nat.lt_or_ge j fin.length with h1|h1
  ·exact h1
  ·rw [List.getD_eq_getElem?_getD,List.getElem?_eq_none h1] at h;cases h
 | step ha _=>have:=dh hv ha;omega
theorem zA {fin:List Bool} {al:List A} (h1:1<=fin.length) (h2:fin.length<=2048) (h3:al.length<=8192) (h4:∀a∈al,0<=a.f/\a.f<fin.length/\0<=a.t/\a.t<fin.length /\ -1<=a.i/\a.i<64 /\ -1<=a.o/\a.o<64):okF fin al=true:=by
 simp only [okF,Bool.and_eq_true,decide_eq_true_eq,List.all_eq_true]
 exact ⟨⟨h1,h2,h3⟩,fun a ha=>okA_iff.2 (h4 a ha)⟩
theorem TQ (hv:okF fin al=true) (h0:YQ fin al 0):okF (lL (jZ fin al) fin fin.length) (qG (jZ fin al) al)=true:=by
 obtain ⟨h1,h2,h3⟩:=dR hv
 have hk0:jZ fin al 0=true:=kpF_iff.2 ⟨.on rfl,h0⟩
 have hc:=cnt_lt (k:=jZ fin al) (j:=0) (n:=fin.length) (by omega) hk0
 have hcl:=cnt_le (k:=jZ fin al) (i:=fin.length)
 have hal:=zJ (k:=jZ fin al) al
 refine zA (by rw [oM];omega) (by rw [oM];omega) (by omega) fun b hb=>?_
 obtain ⟨a,ha,g1,g2,rfl⟩:=mem_arcT.1 hb
 have:=dh hv ha
 have c1:=cnt_lt (n:=fin.length) (by omega) g1
 have c2:=cnt_lt (n:=fin.length) (by omega) g2
 rw [oM]
 simp only
 omega
end
end Go.Proofs.Ytlbdmpjnmfmnfaa
end
section
set_option linter.unusedSimpArgs false
set_option linter.unusedVariables false
namespace Go.FS
def sy (s:Int):List Int:=if s = -1 then [] else [s]
inductive Tr (al:List A):Int->List Int->List Int->Int->Prop
 | nil {p:Int}:Tr al p [] [] p
 | step {a:A} {u v:List Int} {q:Int}:a∈al->Tr al a.t u v q->Tr al a.f (sy a.i++u) (sy a.o++v) q
section
variable {al:List A}
theorem Tr.snoc {p q:Int} {u v:List Int} (h:Tr al p u v q) {a:A} (ha:a∈al) (hq:a.f=q):Tr al p (u++sy a.i) (v++sy a.o) a.t:=by
 induction h with
 | nil =>
  subst hq
  have:=Tr.step ha (Tr.nil (al:=al) (p:=a.t))
  simpa using this
 | step hb _ ih=>rw [List.append_assoc,List.append_assoc];exact .step hb (ih hq)
theorem Tr.append {p q r:Int} {u v u' v':List Int} (h:Tr al p u v q) (h':Tr al q u' v' r):Tr al p (u++u') (v++v') r:=by
 induction h with
 | nil=>exact h'
 | step hb _ ih=>rw [List.append_assoc,List.append_assoc];exact .step hb (ih h')
variable {fin:List Bool} {w:List Int}
theorem Ti {i:Nat} (h:i<w.length):w.take (i+1)=w.take i++[w.getD i 0]:=by
 rw [List.take_add_one];simp [h]
theorem xX {i:Nat} (h:i<w.length):w.drop i=w.getD i 0::w.drop (i+1):=by
 rw [List.drop_eq_getElem_cons h];simp [h]
theorem Ul {x y:Nd} {o:Int} (h:Mv al w x o y) {v:List Int} (h0:0<=x.2) (h1:x.2<=w.length) (ht:Tr al 0 (w.take x.2.toNat) v x.1):0<=y.2/\y.2<=w.length/\Tr al 0 (w.take y.2.toNat) (v++sy o) y.1:=by
 cases h with
 | @eps a _ ha hf hi =>
  have:=ht.snoc ha hf
  rw [sy,if_pos hi,List.append_nil] at this
  exact ⟨h0,h1,this⟩
 | @sym a _ ha hf hi h2 h3 h4 =>
  have:=ht.snoc ha hf
  rw [sy,if_neg hi,<- h4,<- Ti (by omega)] at this
  refine ⟨by simp only;omega,by simp only;omega,?_⟩
  have e:(x.2+1).toNat=x.2.toNat+1:=by omega
  simp only
  rw [e];exact this
theorem ZN {v:List Int} {y:Nd} (h:At fin al w v y):0<=y.2/\y.2<=w.length/\Tr al 0 (w.take y.2.toNat) v y.1:=by
 induction h with
 | nil _=>exact ⟨by simp,by simp,.nil⟩
 | eps _ hm _ ih =>
  have:=Ul hm ih.1 ih.2.1 ih.2.2
  rw [sy,if_pos rfl,List.append_nil] at this
  exact this
 | sym _ hm hs _ ih =>
  have:=Ul hm ih.1 ih.2.1 ih.2.2
  rw [sy,if_neg hs] at this
  exact this
theorem BX {p q:Int} {u v:List Int} (h:Tr al p u v q) (hq:isFin fin q):∀ {i:Int},0<=i->i<=w.length->w.drop i.toNat=u->Good fin al w (p,i):=by
 induction h with
 | nil =>
  intro i h0 h1 hd
  have:i=w.length:=by
   have:=congrArg List.length hd
   rw [List.length_drop] at this
   simp at this;omega
  subst this
  exact .fin hq
 | @step a u v q ha h ih =>
  intro i h0 h1 hd
  by_cases hi:a.i = -1
  ·rw [sy,if_pos hi] at hd
   exact .mv (.eps (x:=(a.f,i)) ha rfl hi) (ih hq h0 h1 hd)
  ·rw [sy,if_neg hi] at hd
   have hl:i.toNat<w.length:=by
    rcases Nat.lt_or_ge i.toNat w.length with h|h
    ·exact h
    ·rw [List.drop_eq_nil_of_le h] at hd;cases hd
   rw [xX hl] at hd
   simp only [List.cons_append,List.nil_append,List.cons.injEq] at hd
   refine .mv (.sym (x:=(a.f,i)) ha rfl hi h0 (by simp only;omega) hd.1) (ih hq (by omega) (by omega) ?_)
   rw [show (i+1).toNat=i.toNat+1 by omega];exact hd.2
theorem VE {p q:Int} {u v:List Int} (h:Tr al p u v q) (hq:isFin fin q):∀ {i:Int} {v0:List Int},At fin al w v0 (p,i)->0<=i->i<=w.length->w.drop i.toNat=u->Out fin al w (v0++v):=by
 induction h with
 | nil =>
  intro i v0 hA h0 h1 hd
  have:i=w.length:=by
   have:=congrArg List.length hd
   rw [List.length_drop] at this
   simp at this;omega
  subst this
  rw [List.append_nil]
  exact ⟨_,hA,hq⟩
 | @step a u v q ha h ih =>
  intro i v0 hA h0 h1 hd
  have go:∀ {y:Nd},Mv al w (a.f,i) a.o y->Good fin al w y->y.1=a.t->0<=y.2->y.2<=w.length->w.drop y.2.toNat=u->Out fin al w (v0++(sy a.o++v)):=fun {y} hm hg hy h2 h3 h4=>by
   obtain ⟨y1,y2⟩:=y
   simp only at hy h2 h3 h4
   subst hy
   by_cases ho:a.o = -1
   ·rw [sy,if_pos ho,List.nil_append]
    rw [ho] at hm
    exact ih hq (hA.eps hm hg) h2 h3 h4
   ·rw [sy,if_neg ho,<- List.append_assoc]
    exact ih hq (hA.sym hm ho hg) h2 h3 h4
  by_cases hi:a.i = -1
  ·rw [sy,if_pos hi] at hd
   exact go (.eps (x:=(a.f,i)) ha rfl hi) (BX h hq h0 h1 hd) rfl h0 h1 hd
  ·rw [sy,if_neg hi] at hd
   have hl:i.toNat<w.length:=by
    rcases Nat.lt_or_ge i.toNat w.length with h|h
    ·exact h
    ·rw [List.drop_eq_nil_of_le h] at hd;cases hd
   rw [xX hl] at hd
   simp only [List.cons_append,List.nil_append,List.cons.injEq] at hd
   have h5:w.drop (i+1).toNat=u:=by rw [show (i+1).toNat=i.toNat+1 by omega];exact hd.2
   exact go (.sym (x:=(a.f,i)) ha rfl hi h0 (by simp only;omega) hd.1) (BX h hq (by omega) (by omega) h5) rfl (by simp only;omega) (by simp only;omega) h5
theorem out_tr {v:List Int}:Out fin al w v <-> ∃p,Tr al 0 w v p/\isFin fin p:=by
 constructor
 ·rintro ⟨p,h,hf⟩
  have:=(ZN h).2.2
  simp only [Int.toNat_natCast,List.take_length] at this
  exact ⟨p,this,hf⟩
 ·rintro ⟨p,h,hf⟩
  have hg:Good fin al w (0,0):=BX h hf (by omega) (by omega) (by simp)
  have:=VE h hf (i:=0) (.nil hg) (by omega) (by omega) (by simp)
  simpa using this
end
section
variable {fin fin':List Bool} {al al':List A} {w w':List Int}
theorem JD {v:List Int}:Beg fin al w v <-> ∃u,Out fin al w (v++u):=⟨Beg.out,fun ⟨_,h⟩=>h.beg.pre⟩
theorem wZ (h:∀v,Out fin al w v <-> Out fin' al' w' v) (n:Nat):lF fin al w n=lF fin' al' w' n:=by
 have hb:Beg fin al w=Beg fin' al' w':=funext fun v=>propext (by rw [JD,JD];exact exists_congr fun u=>h _)
 have he:ext fin al w=ext fin' al' w':=by funext v;unfold ext;rw [hb]
 induction n with
 | zero=>unfold lF;rw [hb]
 | succ n ih=>unfold lF;rw [ih,he]
theorem zf (h:∀v,Out fin al w v <-> Out fin' al' w' v) (n:Nat):upto fin al w n=upto fin' al' w' n:=by
 have ho:Out fin al w=Out fin' al' w':=funext fun v=>propext (h v)
 induction n with
 | zero=>rfl
 | succ n ih=>unfold upto outs;rw [ih,wZ h,ho]
theorem Au (h:∀v,Out fin al w v <-> Out fin' al' w' v) {most:Int} {l:List (List Int)}:Lst fin al w most l <-> Lst fin' al' w' most l:=by
 unfold Lst
 constructor
 ·rintro ⟨n,h1,h2,h3⟩;exact ⟨n,by rw [<- wZ h];exact h1,by rw [<- zf h];exact h2,h3⟩
 ·rintro ⟨n,h1,h2,h3⟩;exact ⟨n,by rw [wZ h];exact h1,by rw [zf h];exact h2,h3⟩
theorem XL (hk:uN al) {L:List (List Int)} (h:∀v,Out fin al w v->v∈L):∃n,lF fin al w n=[]:=by
 obtain ⟨m,hm⟩:∃m,∀v∈L,v.length<m:=by
  clear h
  induction L with
  | nil=>exact ⟨0,by simp⟩
  | cons v L ih =>
   obtain ⟨m,hm⟩:=ih
   refine ⟨max m (v.length+1),fun u hu=>?_⟩
   rcases List.mem_cons.1 hu with rfl|hu
   ·omega
   ·have:=hm u hu;omega
 refine ⟨m,?_⟩
 apply List.eq_nil_iff_forall_not_mem.2
 intro v hv
 obtain ⟨hb,hl⟩:=(je hk).1 hv
 obtain ⟨u,hu⟩:=hb.out
 have:=hm _ (h _ hu)
 rw [List.length_append] at this
 omega
end
def inv (a:A):A:=⟨a.f,a.o,a.i,a.t⟩
end Go.FS
end
section
set_option linter.unusedSimpArgs false
set_option linter.unusedVariables false
namespace Go.Proofs.Ytlbdmpjnmfmnfaa
open Go.RowKit Go.HL Go.FS
theorem Sj {fin:List Bool} {al:List A} {w:List Int} {most:Int} (ho:rV fin al w most):(nK fin al w most).2=0\/(nK fin al w most).2=4:=by
 unfold nK
 rw [if_pos ho]
 by_cases he:∃l,Lst fin al w most l
 ·rw [dif_pos he];exact .inl rfl
 ·rw [dif_neg he];exact .inr rfl
theorem Jp {fin:List Bool} {al:List A} {w:List Int} {most:Int} (h:(nK fin al w most).2=0) {v:List Int}:v∈(nK fin al w most).1 <-> Out fin al w v:=by
 obtain ⟨h1,h2⟩:=Cf h
 exact h2.mem (tH h1.1)
theorem KD {fin fin':List Bool} {al al':List A} {w w':List Int} {most:Int} (h1:rV fin al w most) (h2:rV fin' al' w' most) (h:∀v,Out fin al w v <-> Out fin' al' w' v):nK fin al w most=nK fin' al' w' most:=by
 by_cases he:∃l,Lst fin al w most l
 ·obtain ⟨l,hl⟩:=he
  rw [BF h1 hl,BF h2 ((Au h).1 hl)]
 ·rw [Px h1 fun l hl=>he ⟨l,hl⟩,Px h2 fun l hl=>he ⟨l,(Au h).2 hl⟩]
end Go.Proofs.Ytlbdmpjnmfmnfaa
end
