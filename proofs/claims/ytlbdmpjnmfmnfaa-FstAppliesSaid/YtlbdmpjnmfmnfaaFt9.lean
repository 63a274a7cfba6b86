import Derived.Test.YtlbdmpjnmfmnfaaFsX
import Derived.Test.YtlbdmpjnmfmnfaaFsT
import Derived.Test.YtlbdmpjnmfmnfaaFsO
import Derived.Test.YtlbdmpjnmfmnfaaFsM
import Derived.Test.YtlbdmpjnmfmnfaaFt1
section
set_option linter.unusedSimpArgs false
set_option linter.unusedVariables false
namespace Go.Proofs.Ytlbdmpjnmfmnfaa
open Go.RowKit Go.HL Go.FS
theorem D7 (w:List Int) (LF:List (List A)) (gb:List Bool) (N n:Nat) (hL:LF.length=n) (hN:gb.length=N):stripL [.sl w.length (HL.ints w),.osl 1 n (fA LF),.osl 1 N (HL.bools gb)]=[.sl w.length (HL.ints w),.sl LF.length (dL LF),.sl N (HL.bools gb)]:=by
 subst hL hN
 simp [stripL,HV.strip,HL.ints_strip,HL.bools_strip,jv]
set_option maxHeartbeats 16000000 in
theorem Hl (fin:List Bool) (al:List A) (w:List Int) (most:Int) (hf:fin.length<=9223372036854775807) (ha:al.length<=9223372036854775807) (hwl:w.length<=9223372036854775807):HT Try.prog 18 [.agg (fK fin al),.sl w.length (HL.ints w),.int .i64 most] (Gz fin al w most):=by
 refine HT.of rfl abr (Nat.le_of_ble_eq_true rfl) ?_
 unfold c18
 have hvd:=y5 fin al hf ha
 have hst:=Ik fin al w
 have hwd:=fun G gb=>AU fin al w G [(0,0)] gb
 simp only [aX,Nat.reduceAdd]
 simp only [fK,gX] at hvd hst ⊢
 repeat (first|refine ah ?_|refine af ?_|refine au ?_|refine ae ?_|refine aZ ?_|refine fU ?_|refine di ?_)
 refine dF bW dm (hvd) ?_
 rintro _ rfl
 by_cases hv:okF fin al=true
 ·rw [hv]
  refine ⟨cO,_,_,_,_,_,gY,(by decide),bT,?_⟩
  by_cases m1:most<1
  ·repeat (first|refine ah ?_|refine aO ?_|refine cu ?_|refine af ?_|refine ay ?_|refine aK ?_|refine aN ?_|refine ak ?_|refine au ?_|refine ae ?_|refine aZ ?_|refine gI (by rfl) ?_)
   refine az ?_
   exact qJ (fun h=>by have:=h.2.1;omega) rfl
  by_cases m2:64<most
  ·repeat (first|refine ah ?_|refine aO ?_|refine cu ?_|refine af ?_|refine ay ?_|refine aK ?_|refine aN ?_|refine ak ?_|refine au ?_|refine ae ?_|refine aZ ?_|refine bI ?_|refine gI (by rfl) ?_)
   refine az ?_
   exact qJ (fun h=>by have:=h.2.2.1;omega) rfl
  by_cases m3:(1024:Int)<(w.length:Int)
  ·repeat (first|refine ah ?_|refine aO ?_|refine af ?_|refine ay ?_|refine aN ?_|refine aB ?_|refine ak ?_|refine au ?_|refine ae ?_|refine aZ ?_|refine bI ?_|refine gI (by rfl) ?_)
   refine az ?_
   exact qJ (fun h=>by have:=h.2.2.2;omega) rfl
  have hok:tH fin al w most:=⟨hv,by omega,by omega,by omega⟩
  have hw:w.length<=1024:=by omega
  have hfl:=fJ (·.f) fin.length al
  repeat (first|refine ah ?_|refine aO ?_|refine af ?_|refine ay ?_|refine aN ?_|refine aB ?_|refine ax ?_|refine au ?_|refine ae ?_|refine aH ?_|refine bI ?_|refine gI (by rfl) ?_|refine fU ?_)
  refine dF bW dm (hst hv hw) ?_
  rintro _ ⟨G,gb,rfl,hb,hGn,hG⟩
  simp only [UM]
  refine ⟨cO,_,_,_,_,_,gY,(by decide),bT,?_⟩
  repeat (first|refine af ?_|refine dw ?_|refine bU dN ?_)
  have hK:Gz fin al w most=Z7 fin al w most:=by funext r;unfold Gz;rw [if_pos hok]
  rw [hK]
  obtain ⟨N,hN⟩:∃N,fin.length*(w.length+1)=N:=⟨_,rfl⟩
  have hgl:=hb.len
  rw [hN] at hgl
  have hok2:=iF hv
  have hNb:=kN (n:=fin.length) (w:=w) hok2.2.1 hw
  rw [hN] at hNb
  have hin:∀a∈al,0<=a.f/\a.f<fin.length:=fun a ha=>by have:=fE hv ha;omega
  have hGl:=iP hGn fun x hx=>jd hin ((hG x).1 hx)
  rw [hN] at hGl
  have h00:rP fin.length w (0,0):=⟨by simp,by simp only;omega,by simp,by simp⟩
  have hg0:=hb.at_ _ h00
  rw [show (cd w.length (0,0)).toNat=0 by simp [cd]] at hg0
  have hNp:0<N:=by
   have:=(ng h00).2
   rw [hN] at this;omega
  have hwd:=fun hg hl=>hwd G gb hv hw hG hb hg hl
  have hloop:=fun lv=>Ba fin al w G gb most lv _ N rfl hN hv hw (by omega) (by omega) hG hGn hb
  simp only [wY,hgl] at hwd
  rw [hgl]
  generalize hLF:bn (·.f) fin.length al=LF at hfl hwd hloop ⊢
  refine bF 352 [1,2,3,8] ⟨[(1,.sl w.length (HL.ints w)),(2,.int .i64 most),(3,.pref 0 [] 0),(8,.ptr (stripL [.sl w.length (HL.ints w),.osl 1 LF.length (fA LF),.osl 1 N (HL.bools gb)]) 0)],[(0,.optr [.sl fin.length (HL.bools fin),.sl al.length (recs aC al)])],1⟩ rfl ?_
  rw [D7 w LF gb N LF.length rfl hgl]
  refine bF 0 [1,2,3,8] ⟨[(1,.sl w.length (HL.ints w)),(2,.int .i64 most),(3,.ptr (stripL [.sl fin.length (HL.bools fin),.sl al.length (recs aC al)]) 0),(8,.ptr [.sl w.length (HL.ints w),.sl LF.length (dL LF),.sl N (HL.bools gb)] 0)],[],0⟩ rfl ?_
  rw [jy]
  have h0:=Yq hG
  by_cases hg:((0,0):Nd)∈G
  ·rw [decide_eq_true hg] at hg0
   rw [if_pos hg] at h0
   have hgd:∀x∈[((0,0):Nd)],FS.Good fin al w x:=fun x hx=>by
    simp only [List.mem_singleton] at hx;subst hx;exact (hG _).1 hg
   have hwd':=hwd hgd (by simp)
   rw [show oq w [((0,0):Nd)]=[.int .i64 0] by simp [oq,HL.ints,cd]] at hwd'
   repeat (first|refine ah ?_|refine aJ ?_|refine dA (by rfl) aG (by (try simp (disch:=omega) only [go_sem,hg0]);try rfl) ?_|refine af ?_|refine ak ?_|refine au ?_|refine ae ?_|refine aZ ?_|refine aY ?_|refine gB (by rfl) aG (by (try simp (disch:=omega) only [go_sem,reduceIte,Nat.reduceEqDiff,Nat.reduceAdd,Nat.reduceMul,hg0]);try rfl) ?_|refine bP ?_|refine gp dN (by rfl) aQ l9 ji aW aI dN (by omega) fP aG (by (try simp (disch:=omega) only [go_sem,reduceIte,Nat.reduceEqDiff,Nat.reduceAdd,Nat.reduceMul,hg0]);try rfl) aI (by rfl) ?_)
   refine dF bW dm (hwd') ?_
   rintro _ ⟨L,rfl,hL,hLn⟩
   refine ⟨(by simp only [bG,wF,HV.refFree,fM,HV.noRd,HL.ints_noRd,HL.bools_noRd,Bool.or_true,Bool.true_or,Bool.or_false,Bool.false_or,Bool.and_true,Bool.true_and,Bool.and_self,List.isEmpty_nil,beq_self_eq_true,List.cons_append,List.nil_append]),_,_,_,_,_,gY,(by decide),bT,?_⟩
   repeat (first|refine ah ?_|refine af ?_|refine au ?_|refine ae ?_|refine aA ?_|refine aZ ?_|refine oN dN bW aI iW (by simp) (by rfl) (by rfl) (by rfl) ?_|refine gp dN (by rfl) aQ l9 ji aW aI dN (by omega) fP aG Cf aI (by rfl) ?_)
   have hLl:L.length<=G.length:=fF hLn fun x hx=>(hG x).2 (oZ hgd ((hL x).1 hx))
   refine iT (Weak.norm2 [1,2,3,8,9,10,11,12] _) ?_
   exact hloop [([],L)] (by rw [h0];rfl) (fun q hq=>by
    simp only [List.mem_singleton] at hq
    subst hq
    exact row0 hG hg hL (by omega))
  ·rw [decide_eq_false hg] at hg0
   rw [if_neg hg] at h0
   repeat (first|refine ah ?_|refine aJ ?_|refine dA (by rfl) aG (by (try simp (disch:=omega) only [go_sem,hg0]);try rfl) ?_|refine af ?_|refine ax ?_|refine au ?_|refine ae ?_|refine aA ?_|refine aH ?_|refine aZ ?_|refine aY ?_)
   refine iT (Weak.norm2 [1,2,3,8,9,10,11,12] _) ?_
   exact hloop [] (by rw [h0];rfl) (by simp)
 ·rw [show okF fin al=false by simpa using hv]
  refine ⟨cO,_,_,_,_,_,gY,(by decide),bT,?_⟩
  repeat (first|refine ah ?_|refine cu ?_|refine af ?_|refine aK ?_|refine ak ?_|refine au ?_|refine ae ?_|refine aZ ?_|refine iG (by rfl) ?_)
  refine az ?_
  exact qJ (fun h=>hv h.1) rfl
end Go.Proofs.Ytlbdmpjnmfmnfaa
end
section
set_option linter.unusedSimpArgs false
set_option linter.unusedVariables false
namespace Go.Proofs.Ytlbdmpjnmfmnfaa
open Go.RowKit Go.HL Go.FS
open Classical in
noncomputable def xZ (fin:List Bool) (al:List A) (w:List Int) (most:Int):List (List Int)×Int :=
 if tH fin al w most then (if h:∃l,Lst fin al w most l then (h.choose,0) else ([],4)) else ([],1)
theorem FV {fin:List Bool} {al:List A} (h:okF fin al=true):uz al:=fun a ha=>by have:=fE h ha;omega
theorem PE {fin:List Bool} {al:List A} {w:List Int} {most:Int} {r:HV} (h:Gz fin al w most r):r=.tup [.osl 1 (xZ fin al w most).1.length (wds (xZ fin al w most).1),.int .i64 (xZ fin al w most).2]:=by
 unfold Gz at h
 unfold xZ
 by_cases ho:tH fin al w most
 ·rw [if_pos ho] at h
  rw [if_pos ho]
  rcases h with ⟨l,h1,rfl⟩|⟨h1,rfl⟩
  ·have he:∃l,Lst fin al w most l:=⟨l,h1⟩
   rw [dif_pos he]
   have:=he.choose_spec.uniq (FV ho.1) h1
   rw [this]
  ·rw [dif_neg (fun ⟨l,hl⟩=>h1 l hl)];rfl
 ·rw [if_neg ho] at h
  rw [if_neg ho,h];rfl
theorem Tc {fin:List Bool} {al:List A} {w:List Int} {most:Int} (h:(xZ fin al w most).2=0):tH fin al w most/\Lst fin al w most (xZ fin al w most).1:=by
 unfold xZ at h ⊢
 by_cases ho:tH fin al w most
 ·rw [if_pos ho] at h ⊢
  by_cases he:∃l,Lst fin al w most l
  ·rw [dif_pos he] at h ⊢;exact ⟨ho,he.choose_spec⟩
  ·rw [dif_neg he] at h;cases h
 ·rw [if_neg ho] at h;cases h
theorem GH {fin:List Bool} {al:List A} {w:List Int} {most:Int} (ho:¬ tH fin al w most):xZ fin al w most=([],1):=by
 unfold xZ;rw [if_neg ho]
theorem ND (fin:List Bool) (al:List A) (w:List Int) (most:Int):(xZ fin al w most).2=0\/((xZ fin al w most).1=[]/\((xZ fin al w most).2=4\/(xZ fin al w most).2=1)):=by
 unfold xZ
 by_cases ho:tH fin al w most
 ·rw [if_pos ho]
  by_cases he:∃l,Lst fin al w most l
  ·rw [dif_pos he];exact .inl rfl
  ·rw [dif_neg he];exact .inr ⟨rfl,.inl rfl⟩
 ·rw [if_neg ho];exact .inr ⟨rfl,.inr rfl⟩
open Classical in
theorem Og {fin:List Bool} {al:List A} {w:List Int} {most:Int} {l:List (List Int)} (ho:tH fin al w most) (h:Lst fin al w most l):l.length<=64/\∀u∈l,u.length<=10000000:=by
 have hv:=ho.1
 have hk:=FV hv
 have hw:=ho.2.2.2
 obtain ⟨h1,h2,h3⟩:=iF hv
 refine ⟨by obtain ⟨n,_,_,h5⟩:=h;have:=ho.2.2.1;omega,fun u hu=>?_⟩
 have hin:∀a∈al,0<=a.f/\a.f<fin.length:=fun a ha=>by have:=fE hv ha;omega
 have hG:∀x,x∈(nodes fin.length w.length).filter (fun x=>decide (FS.Good fin al w x)) <-> FS.Good fin al w x:=fun x=>by
  rw [List.mem_filter]
  simp only [decide_eq_true_eq]
  refine ⟨fun h=>h.2,fun h=>⟨?_,h⟩⟩
  exact yz (jd hin h)
 have h4:=G9 hk hG h u hu
 have h5:=List.length_filter_le (fun x=>decide (FS.Good fin al w x)) (nodes fin.length w.length)
 rw [yH] at h5
 have h6:fin.length*(w.length+1)<=2048*1025:=Nat.mul_le_mul h2 (by omega)
 omega
theorem Gf (fin:List Bool) (al:List A) (w:List Int) (most:Int):(xZ fin al w most).1.length<=64/\∀u∈(xZ fin al w most).1,u.length<=10000000:=by
 rcases ND fin al w most with h|⟨h,_⟩
 ·obtain ⟨h1,h2⟩:=Tc h
  exact Og h1 h2
 ·rw [h];simp
noncomputable def Ji (fin:List Bool) (al:List A) (w:List Int) (most:Int):HV:=.tup [.osl 1 (xZ fin al w most).1.length (wds (xZ fin al w most).1),.int .i64 (xZ fin al w most).2]
theorem yC (fin:List Bool) (al:List A) (w:List Int) (most:Int) (hf:fin.length<=9223372036854775807) (ha:al.length<=9223372036854775807) (hwl:w.length<=9223372036854775807):HT Try.prog 17 [.agg (fK fin al),.sl w.length (HL.ints w),.int .i64 most] (fun r=>r=Ji fin al w most) :=
 (CE fin al w most hf ha hwl).mono fun _ h=>PE h
theorem Ey (fin:List Bool) (al:List A) (w:List Int) (most:Int) (hf:fin.length<=9223372036854775807) (ha:al.length<=9223372036854775807) (hwl:w.length<=9223372036854775807):HT Try.prog 18 [.agg (fK fin al),.sl w.length (HL.ints w),.int .i64 most] (fun r=>r=Ji fin al w most) :=
 (Hl fin al w most hf ha hwl).mono fun _ h=>PE h
theorem OA (u:List Int):(wR u).deep=[]:=by
 unfold wR;split
 ·rfl
 ·simp [HV.deep,kJ]
theorem JF (l:List (List Int)):bK (wds l)=[]:=by
 induction l with
 | nil=>rfl
 | cons u l ih=>simp only [wds,List.map_cons,bK,OA,List.nil_append] at ih ⊢;exact ih
theorem Cm (fin:List Bool) (al:List A) (w:List Int) (most:Int):(Ji fin al w most).deep=[]:=by
 simp [Ji,HV.deep,bK,JF]
theorem y9 (l:List (List Int)):stripL (wds l)=wds l:=by
 induction l with
 | nil=>rfl
 | cons u l ih =>
  have:(wR u).strip=wR u:=by
   unfold wR;split
   ·rfl
   ·simp [HV.strip,HL.ints_strip]
  simp only [wds,List.map_cons,stripL,this] at ih ⊢
  rw [ih]
def wE:Option (List Int)->HV
 | none=>.nils
 | some u=>.sl u.length (HL.ints u)
theorem PG (o:Option (List Int)):dn0 (wE o)=.sl (o.getD []).length (HL.ints (o.getD [])):=by cases o<;>rfl
theorem uD (fin:List Bool) (al:List A) (o:Option (List Int)) (most:Int) (hf:fin.length<=9223372036854775807) (ha:al.length<=9223372036854775807) (hwl:(o.getD []).length<=9223372036854775807):HT Try.prog 17 [.agg (fK fin al),wE o,.int .i64 most] (fun r=>r=Ji fin al (o.getD []) most) :=
 HT.arg (fun F h rvs ow=>by
  have:=Ad ow
  simp only [List.map_cons,List.map_nil,PG] at this
  exact this) (yC fin al (o.getD []) most hf ha hwl)
theorem vX (fin:List Bool) (al:List A) (o:Option (List Int)) (most:Int) (hf:fin.length<=9223372036854775807) (ha:al.length<=9223372036854775807) (hwl:(o.getD []).length<=9223372036854775807):HT Try.prog 18 [.agg (fK fin al),wE o,.int .i64 most] (fun r=>r=Ji fin al (o.getD []) most) :=
 HT.arg (fun F h rvs ow=>by
  have:=Ad ow
  simp only [List.map_cons,List.map_nil,PG] at this
  exact this) (Ey fin al (o.getD []) most hf ha hwl)
def fC (p:List Bool×List A):List HV:=[.sl p.1.length (HL.bools p.1),.sl p.2.length (recs aC p.2)]
theorem fR:Rec fC 2:=⟨fun _=>rfl,fun _=>rfl,fun _=>rfl,fun p=>by simp [fC,stripL,HV.strip,HL.bools_strip,jg]⟩
theorem KH (l:List (List Bool×List A)) {i:Nat} (h:i<l.length):win (recs fC l) (i*2) 2=[.sl (l.getD i default).1.length (HL.bools (l.getD i default).1),.sl (l.getD i default).2.length (recs aC (l.getD i default).2)]:=qE fR l h
theorem MG (l:List (List Bool×List A)):(recs fC l).length=l.length*2:=nS fR l
theorem N9 (l:List (Option (List Int))) {i:Nat} (h:i<l.length):(l.map wE).getD i .dead=wE (l.getD i none):=by simp [h]
attribute [go_sem] KH MG N9 List.length_map
end Go.Proofs.Ytlbdmpjnmfmnfaa
end
