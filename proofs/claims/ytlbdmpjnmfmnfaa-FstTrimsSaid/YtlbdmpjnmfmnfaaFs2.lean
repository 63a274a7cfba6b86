import Derived.Test.YtlbdmpjnmfmnfaaFs1
set_option linter.unusedSimpArgs false
set_option linter.unusedVariables false
namespace Go.Proofs.Ytlbdmpjnmfmnfaa
open Go.RowKit Go.HL Go.FS
theorem pO {α:Type} [Inhabited α] {g:α->List HV} {k:Nat} (r:Rec g k) {v:HV} {x:α}:∀ (l:List α) {i j:Nat},i<l.length->j<k->(g (l.getD i default)).set j v=g x->(recs g l).set (i*k+j) v=recs g (l.set i x)
 | [],i,j,h,_,_=>by simp at h
 | a::l,0,j,_,hj,he=>by
  have e:recs g (a::l)=g a++recs g l:=rfl
  rw [e,Nat.zero_mul,Nat.zero_add,List.set_append_left _ _ (by rw [r.len];exact hj)]
  simp only [List.getD_cons_zero] at he
  rw [he];rfl
 | a::l,i+1,j,h,hj,he=>by
  have e:recs g (a::l)=g a++recs g l:=rfl
  have hl:=r.len a
  rw [e,List.set_append_right _ _ (by rw [hl,Nat.add_mul,Nat.one_mul];omega),hl,show (i+1)*k+j - k=i*k+j by rw [Nat.add_mul,Nat.one_mul];omega,pO r l (by simpa using h) hj (by simpa using he)]
  rfl
theorem Gu (l:List A) {i:Nat} (v:Int) (h:i<l.length):(recs aC l).set (i*4) (.int .i64 v)=recs aC (l.set i { l.getD i default with f:=v }):=pO aR (j:=0) l h (by omega) rfl
theorem IP (l:List A) {i:Nat} (v:Int) (h:i<l.length):(recs aC l).set (i*4+1) (.int .i64 v)=recs aC (l.set i { l.getD i default with i:=v }):=pO aR l h (by omega) rfl
theorem GR (l:List A) {i:Nat} (v:Int) (h:i<l.length):(recs aC l).set (i*4+2) (.int .i64 v)=recs aC (l.set i { l.getD i default with o:=v }):=pO aR l h (by omega) rfl
theorem Hf (l:List A) {i:Nat} (v:Int) (h:i<l.length):(recs aC l).set (i*4+3) (.int .i64 v)=recs aC (l.set i { l.getD i default with t:=v }):=pO aR l h (by omega) rfl
attribute [go_sem] Gu IP GR Hf
theorem jm (F:List Bool) (X:List A) (n m:Nat):stripL [.osl 1 n (HL.bools F),.osl 4 m (recs aC X)]=[.sl n (HL.bools F),.sl m (recs aC X)]:=by simp [stripL,HV.strip,HL.bools_strip,jg]
set_option maxRecDepth 30000 in
set_option maxHeartbeats 8000000 in
theorem vw (fin:List Bool) (al:List A) (p q:Int) (hf:fin.length<=2000) (ha0:0<al.length) (ha:al.length<=2001) (hp : -9223372036854775808<=p/\p<=9223372036854775807) (hq : -9223372036854775808<=q/\q<=9223372036854775807) :
  hx Try.prog [.c zo] (finish [6] (KC [.c 6 true 2] fun r=>∃fin al,r=.agg (fA fin al)/\fin.length<=9000/\al.length<=9000))
   ⟨[(1,.int .i64 p),(2,.int .i64 q),(6,.pref 0 [] 0),(7,.pref 1 [] 0)],[(0,.optr [.nils,.nils]),(1,.optr [.osl 1 fin.length (HL.bools fin),.osl 4 al.length (recs aC al)])],2⟩:=by
 unfold zo Jg
 generalize hC:KU=C
 repeat (first|refine ah ?_|refine aU ?_|refine dY (by rfl) ?_|refine au ?_|refine ae ?_|refine aB ?_)
 refine dG bK dh (uk p al.length ha0 (by omega) hp.1 hp.2) ?_
 rintro _ ⟨y,rfl,hy⟩
 refine ⟨bP,_,_,_,_,_,gU,(by decide),bJ,?_⟩
 repeat (first|refine ah ?_|refine af ?_|refine au ?_|refine ae ?_)
 refine dG bK dh (uk q 8 (by omega) (by omega) hq.1 hq.2) ?_
 rintro _ ⟨z,rfl,hz⟩
 refine ⟨bP,_,_,_,_,_,gU,(by decide),bJ,?_⟩
 rcases (show z=0\/z=1\/z=2\/z=3\/z=4\/z=5\/z=6\/z=7 by omega) with rfl|rfl|rfl|rfl|rfl|rfl|rfl|rfl
 ·repeat (first|refine ah ?_|refine af ?_|refine dB ?_|refine ak ?_|refine au ?_|refine ae ?_|refine aA ?_|refine dL ?_|refine aB ?_|refine cu ?_)
  subst hC
  refine fF 1 [1] [6,7] (⟨[(6,.pref 0 [] 0),(7,.pref 1 [] 0)],[(0,.optr [.nils,.nils]),(1,.optr [.osl 1 0 [],.osl 4 al.length (recs aC al)])],2⟩:St) rfl rfl ?_
  refine bg 1 [6,7] ⟨[(6,.pref 0 [] 0),(7,.ptr (stripL [.osl 1 0 (HL.bools []),.osl 4 al.length (recs aC al)]) 0)],[(0,.optr [.nils,.nils])],1⟩ rfl ?_
  rw [jm]
  repeat (first|refine af ?_|refine au ?_|refine ae ?_|refine aZ ?_|refine cu ?_)
  refine ay ?_
  exact ⟨_,_,rfl,rfl,[],al,by rw [fA,iw];rfl,by first|omega|(rw [List.length_replicate];omega)|simp,by first|omega|(rw [List.length_set];omega)|(rw [List.length_replicate];omega)⟩
 ·repeat (first|refine ah ?_|refine dC ?_|refine aU ?_|refine af ?_|refine dB ?_|refine dY (by rfl) ?_|refine ak ?_|refine ax ?_|refine au ?_|refine ae ?_|refine aA ?_|refine dL ?_|refine aB ?_|refine cZ ?_)
  subst hC
  refine bg 1 [6,7] ⟨[(6,.pref 0 [] 0),(7,.ptr (stripL [.osl 1 fin.length (HL.bools fin),.osl 4 al.length (recs aC (al.set y { al.getD y default with f:=fin.length }))]) 0)],[(0,.optr [.nils,.nils])],1⟩ rfl ?_
  rw [jm]
  repeat (first|refine af ?_|refine au ?_|refine ae ?_|refine aZ ?_|refine cu ?_)
  refine ay ?_
  exact ⟨_,_,rfl,rfl,fin,(al.set y { al.getD y default with f:=fin.length }),by rw [fA,iw];rw [List.length_set];rfl,by first|omega|(rw [List.length_replicate];omega)|simp,by first|omega|(rw [List.length_set];omega)|(rw [List.length_replicate];omega)⟩
 ·repeat (first|refine ah ?_|refine dC ?_|refine aU ?_|refine af ?_|refine dB ?_|refine ak ?_|refine ax ?_|refine au ?_|refine ae ?_|refine aA ?_|refine dL ?_|refine aB ?_|refine cZ ?_)
  subst hC
  refine bg 1 [6,7] ⟨[(6,.pref 0 [] 0),(7,.ptr (stripL [.osl 1 fin.length (HL.bools fin),.osl 4 al.length (recs aC (al.set y { al.getD y default with t := -1 }))]) 0)],[(0,.optr [.nils,.nils])],1⟩ rfl ?_
  rw [jm]
  repeat (first|refine af ?_|refine au ?_|refine ae ?_|refine aZ ?_|refine cu ?_)
  refine ay ?_
  exact ⟨_,_,rfl,rfl,fin,(al.set y { al.getD y default with t := -1 }),by rw [fA,iw];rw [List.length_set];rfl,by first|omega|(rw [List.length_replicate];omega)|simp,by first|omega|(rw [List.length_set];omega)|(rw [List.length_replicate];omega)⟩
 ·repeat (first|refine ah ?_|refine dC ?_|refine aU ?_|refine af ?_|refine dB ?_|refine ak ?_|refine ax ?_|refine au ?_|refine ae ?_|refine aA ?_|refine dL ?_|refine aB ?_|refine cZ ?_)
  subst hC
  refine bg 1 [6,7] ⟨[(6,.pref 0 [] 0),(7,.ptr (stripL [.osl 1 fin.length (HL.bools fin),.osl 4 al.length (recs aC (al.set y { al.getD y default with i:=64 }))]) 0)],[(0,.optr [.nils,.nils])],1⟩ rfl ?_
  rw [jm]
  repeat (first|refine af ?_|refine au ?_|refine ae ?_|refine aZ ?_|refine cu ?_)
  refine ay ?_
  exact ⟨_,_,rfl,rfl,fin,(al.set y { al.getD y default with i:=64 }),by rw [fA,iw];rw [List.length_set];rfl,by first|omega|(rw [List.length_replicate];omega)|simp,by first|omega|(rw [List.length_set];omega)|(rw [List.length_replicate];omega)⟩
 ·repeat (first|refine ah ?_|refine dC ?_|refine aU ?_|refine af ?_|refine dB ?_|refine ak ?_|refine ax ?_|refine au ?_|refine ae ?_|refine aA ?_|refine dL ?_|refine aB ?_|refine cZ ?_)
  subst hC
  refine bg 1 [6,7] ⟨[(6,.pref 0 [] 0),(7,.ptr (stripL [.osl 1 fin.length (HL.bools fin),.osl 4 al.length (recs aC (al.set y { al.getD y default with o := -2 }))]) 0)],[(0,.optr [.nils,.nils])],1⟩ rfl ?_
  rw [jm]
  repeat (first|refine af ?_|refine au ?_|refine ae ?_|refine aZ ?_|refine cu ?_)
  refine ay ?_
  exact ⟨_,_,rfl,rfl,fin,(al.set y { al.getD y default with o := -2 }),by rw [fA,iw];rw [List.length_set];rfl,by first|omega|(rw [List.length_replicate];omega)|simp,by first|omega|(rw [List.length_set];omega)|(rw [List.length_replicate];omega)⟩
 ·repeat (first|refine ah ?_|refine af ?_|refine dB ?_|refine ak ?_|refine ax ?_|refine au ?_|refine ae ?_|refine aA ?_|refine dL ?_|refine aB ?_|refine cu ?_|refine nI dS (by rfl) (by omega) aK aK ?_)
  subst hC
  refine bg 1 [6,7] ⟨[(6,.pref 0 [] 0),(7,.ptr (stripL [.osl 1 2049 (HL.bools (List.replicate 2049 false)),.osl 4 al.length (recs aC al)]) 0)],[(0,.optr [.nils,.nils])],1⟩ rfl ?_
  rw [jm]
  repeat (first|refine af ?_|refine au ?_|refine ae ?_|refine aZ ?_|refine cu ?_)
  refine ay ?_
  exact ⟨_,_,rfl,rfl,(List.replicate 2049 false),al,by rw [fA,iw];rw [List.length_replicate];rfl,by first|omega|(rw [List.length_replicate];omega)|simp,by first|omega|(rw [List.length_set];omega)|(rw [List.length_replicate];omega)⟩
 ·repeat (first|refine ah ?_|refine af ?_|refine dB ?_|refine ak ?_|refine ax ?_|refine au ?_|refine ae ?_|refine aA ?_|refine dL ?_|refine aB ?_|refine cu ?_|refine nI dS (by rfl) (by omega) aK aK ?_)
  subst hC
  refine bg 1 [6,7] ⟨[(6,.pref 0 [] 0),(7,.ptr (stripL [.osl 1 fin.length (HL.bools fin),.osl 4 8193 (recs aC (List.replicate 8193 ⟨0,0,0,0⟩))]) 0)],[(0,.optr [.nils,.nils])],1⟩ rfl ?_
  rw [jm]
  repeat (first|refine af ?_|refine au ?_|refine ae ?_|refine aZ ?_|refine cu ?_)
  refine ay ?_
  exact ⟨_,_,rfl,rfl,fin,(List.replicate 8193 ⟨0,0,0,0⟩),by rw [fA,iw];rw [List.length_replicate];rfl,by first|omega|(rw [List.length_replicate];omega)|simp,by first|omega|(rw [List.length_set];omega)|(rw [List.length_replicate];omega)⟩
 ·repeat (first|refine ah ?_|refine dC ?_|refine aU ?_|refine af ?_|refine dB ?_|refine ak ?_|refine ax ?_|refine au ?_|refine ae ?_|refine aA ?_|refine dL ?_|refine aB ?_|refine cZ ?_)
  subst hC
  refine bg 1 [6,7] ⟨[(6,.pref 0 [] 0),(7,.ptr (stripL [.osl 1 fin.length (HL.bools fin),.osl 4 al.length (recs aC (al.set y { al.getD y default with o:=63 }))]) 0)],[(0,.optr [.nils,.nils])],1⟩ rfl ?_
  rw [jm]
  repeat (first|refine af ?_|refine au ?_|refine ae ?_|refine aZ ?_|refine cu ?_)
  refine ay ?_
  exact ⟨_,_,rfl,rfl,fin,(al.set y { al.getD y default with o:=63 }),by rw [fA,iw];rw [List.length_set];rfl,by first|omega|(rw [List.length_replicate];omega)|simp,by first|omega|(rw [List.length_set];omega)|(rw [List.length_replicate];omega)⟩
set_option maxHeartbeats 8000000 in
theorem GY (fin:List Bool) (al:List A) (p q:Int) (hf:fin.length<=2000) (ha:al.length<=2000) (hp : -9223372036854775808<=p/\p<=9223372036854775807) (hq : -9223372036854775808<=q/\q<=9223372036854775807):HT Try.prog 12 [.agg (fA fin al),.int .i64 p,.int .i64 q] (fun r=>∃fin al,r=.agg (fA fin al)/\fin.length<=9000/\al.length<=9000):=by
 refine HT.ofC rfl aag [6] rfl (Nat.le_of_ble_eq_true rfl) ?_
 unfold c12 Ky LU
 generalize hC:zo=C
 simp only [aW,Nat.reduceAdd,fA,iw]
 repeat (first|refine af ?_|refine au ?_|refine ae ?_|refine dD ?_|refine bG dS ?_)
 refine bg 0 [1,2,3,6] ⟨[(1,.int .i64 p),(2,.int .i64 q),(3,.ptr (stripL [.sl fin.length (HL.bools fin),.sl al.length (recs aC al)]) 0),(6,.pref 0 [] 0)],[(0,.optr [.nils,.nils])],1⟩ rfl ?_
 rw [iU]
 refine ji [3] [] aY aY (fun _ _ _=>False) (by simp [aT,HV.deep,bz,ig,iM]) (by simp) ?_
 by_cases ha0:0<al.length
 ·repeat (first|refine di ?_|refine aU ?_|refine af ?_|refine dB ?_|refine dY (by rfl) ?_|refine ax ?_|refine au ?_|refine ae ?_|refine aF ?_|refine aX ?_|refine aB ?_|refine cu ?_|refine bU ?_|refine bG dS ?_|refine gG ?_|refine bZ ?_)
  subst hC
  refine lm (Weak.norm2 [1,2,6,7] _) ?_
  exact vw fin al p q hf ha0 (by omega) hp hq
 ·obtain rfl:al=[]:=List.length_eq_zero_iff.1 (by omega)
  repeat (first|refine di ?_|refine aU ?_|refine af ?_|refine dB ?_|refine dY (by rfl) ?_|refine ak ?_|refine au ?_|refine ae ?_|refine aX ?_|refine aB ?_|refine cu ?_|refine bU ?_|refine bG dS ?_|refine gG ?_|refine bZ ?_)
  subst hC
  refine lm (Weak.norm2 [1,2,6,7] _) ?_
  exact vw fin [⟨0,0,0,0⟩] p q hf (by simp) (by simp) hp hq
end Go.Proofs.Ytlbdmpjnmfmnfaa
