import Derived.Test.YteamkjblpglliaaAbE
import Derived.Test.YteamkjblpglliaaAbM
import Derived.Test.YteamkjblpglliaaFlChk
import Derived.Test.YteamkjblpglliaaAbN
import Derived.Test.YteamkjblpglliaaAbP
section
set_option linter.unusedSimpArgs false
set_option linter.unusedVariables false
namespace Go.Proofs.Yteamkjblpglliaa
open Go.RowKit Go.SL Go.HL
structure SpR (s t:Sn):Prop where
 set:t.set.length<=s.set.length+1
 flow:t.flow.length=s.flow.length
set_option maxHeartbeats 16000000 in
theorem wM (s:Sn) (hs:s.set.length<=100000) (hf:s.flow.length<=100000) (at_ how by_:Int) (ha : -9223372036854775808<=at_/\at_<=9223372036854775807) (hh : -9223372036854775808<=how/\how<=9223372036854775807) (hb : -9223372036854775808<=by_/\by_<=9223372036854775807) :
  HT Try.prog 25 [.agg (Ai s),.int .i64 at_,.int .i64 how,.int .i64 by_] (fun r=>∃t,r=.agg (Ai t)/\SpR s t):=by
 refine HT.ofC rfl afz [8] rfl (Nat.le_of_ble_eq_true rfl) ?_
 unfold c25
 simp only [Ai,I,Bl,aP,Nat.reduceAdd]
 repeat (first|refine ah ?_|refine aH ?_|refine ag ?_|refine ak ?_|refine ae ?_|refine aC ?_|refine bM ?_|refine dn ?_|refine dF ?_|refine dX ?_|refine iD gU ?_|refine kK ?_)
 refine bf aJ dI (iZ by_ 5 (by omega) (by omega) hb.1 hb.2) ?_
 rintro _ ⟨z,rfl,hz⟩
 refine ⟨dE,_,_,_,_,_,dw,(by decide),aQ,?_⟩
 repeat (first|refine ah ?_|refine ag ?_|refine ak ?_|refine ae ?_|refine ik (by rfl) (by rfl) nV ?_)
 refine bf aJ dI (iZ how 9 (by omega) (by omega) hh.1 hh.2) ?_
 rintro _ ⟨y,rfl,hy⟩
 refine ⟨dE,_,_,_,_,_,dw,(by decide),aQ,?_⟩
 repeat (first|refine ag ?_)
 refine dO [1,3,8,9,10,28] (⟨[(1,.int .i64 at_),(3,.int .i64 by_),(8,.pref 0 [] 0),(9,.pref 1 [] 0),(10,.int .i64 ((z:Int) - 2)),(28,.int .i64 y)],[(0,.optr [.nils,.int .i64 0,.int .i64 0,.int .i64 0,.int .i64 0,.nils,.int .i64 0,.bool false]),(1,.optr [.osl 1 s.set.length (HL.bools s.set),.int .i64 s.worth,.int .i64 s.cost,.int .i64 s.num,.int .i64 s.den,.osl 1 s.flow.length (HL.ints s.flow),.int .i64 s.bound,.bool s.exact])],2⟩:St) ?_ ?_
 ·rfl
 apply uM (P:=Try.prog) (fun t:Sn=>(⟨[(8,.pref 0 [] 0),(9,.pref 1 [] 0)],[(0,.optr [.nils,.int .i64 0,.int .i64 0,.int .i64 0,.int .i64 0,.nils,.int .i64 0,.bool false]),(1,.optr [.osl 1 t.set.length (HL.bools t.set),.int .i64 t.worth,.int .i64 t.cost,.int .i64 t.num,.int .i64 t.den,.osl 1 t.flow.length (HL.ints t.flow),.int .i64 t.bound,.bool t.exact])],2⟩:St)) (fun t=>SpR s t)
 ·intro key
  refine aB ?_
  rcases (show y=0\/y=1\/y=2\/y=3\/y=4\/y=5\/y=6\/y=7\/y=8 by omega) with rfl|rfl|rfl|rfl|rfl|rfl|rfl|rfl|rfl
  ·refine ak ?_
   refine ae ?_
   repeat (first|refine ah ?_|refine ag ?_|refine aY ?_)
   refine ax ?_
   by_cases hn:0<s.set.length
   ·refine ak ?_
    refine ae ?_
    repeat (first|refine aH ?_|refine ag ?_|refine eH (by rfl) ?_|refine bn ?_|refine aC ?_)
    refine ax ?_
    refine ak ?_
    refine ae ?_
    repeat (first|refine ah ?_|refine aH ?_|refine eH (by rfl) ?_|refine aC ?_)
    refine bf aJ dI (iZ at_ s.set.length hn (by omega) ha.1 ha.2) ?_
    rintro _ ⟨p,rfl,hp⟩
    refine ⟨dE,_,_,_,_,_,dw,(by decide),aQ,?_⟩
    repeat (first|refine ah ?_|refine ag ?_)
    obtain ⟨x,hx⟩:∃x,s.set.getD p false=x:=⟨_,rfl⟩
    refine bQ bi bi (fun _ _ _=>False) ?_
    repeat (first|refine ah ?_|refine bY ?_|refine gJ (by rfl) dm (by (try simp (disch:=omega) only [go_sem,reduceIte,Nat.reduceEqDiff,Nat.reduceAdd,Nat.reduceMul,hx]);try rfl) aT (by (try simp (disch:=omega) only [go_sem,hx]);try rfl) fP ?_|refine ag ?_|refine dh ?_|refine xG (by rfl) (by (try simp only [go_sem,reduceIte,hx]);try rfl) ?_|refine aC ?_|refine yU (by rfl) fP bW qp (by rfl) (by decide) dm bW aT (by (try simp (disch:=omega) only [go_sem,hx]);try rfl) bW ?_)
    have hk:=key { s with set:=s.set.set p (!x) } ⟨by show (List.set _ _ _).length<=_;rw [List.length_set];omega,rfl⟩
    simp only [List.length_set] at hk
    exact dO [8,9] _ rfl hk
   ·refine ak ?_
    refine ae ?_
    repeat (first|refine aH ?_|refine ag ?_|refine eH (by rfl) ?_|refine bn ?_|refine aC ?_)
    refine au ?_
    refine aA ?_
    repeat (first|refine dh ?_)
    exact dO [8,9] _ (rfl) (key s ⟨Nat.le_succ _,rfl⟩)
  ·refine ak ?_
   refine ae ?_
   repeat (first|refine ah ?_|refine ag ?_|refine aY ?_)
   refine au ?_
   refine ak ?_
   refine ae ?_
   repeat (first|refine ah ?_|refine ag ?_|refine aY ?_)
   refine ax ?_
   refine ae ?_
   repeat (first|refine ah ?_|refine aH ?_|refine ag ?_|refine bz ?_|refine dh ?_|refine aC ?_|refine iI ?_)
   exact dO [8,9] _ (rfl) (key { s with worth:=IntKind.i64.wrap (s.worth+((z:Int) - 2)) } ⟨Nat.le_succ _,rfl⟩)
  ·refine ak ?_
   refine ae ?_
   repeat (first|refine ah ?_|refine ag ?_|refine aY ?_)
   refine au ?_
   refine ak ?_
   refine ae ?_
   repeat (first|refine ah ?_|refine ag ?_|refine aY ?_)
   refine au ?_
   refine ak ?_
   refine ae ?_
   repeat (first|refine ah ?_|refine ag ?_|refine aY ?_)
   refine ax ?_
   refine ae ?_
   repeat (first|refine ah ?_|refine aH ?_|refine ag ?_|refine bz ?_|refine dh ?_|refine aC ?_|refine iI ?_)
   exact dO [8,9] _ (rfl) (key { s with cost:=IntKind.i64.wrap (s.cost+((z:Int) - 2)) } ⟨Nat.le_succ _,rfl⟩)
  ·refine ak ?_
   refine ae ?_
   repeat (first|refine ah ?_|refine ag ?_|refine aY ?_)
   refine au ?_
   refine ak ?_
   refine ae ?_
   repeat (first|refine ah ?_|refine ag ?_|refine aY ?_)
   refine au ?_
   refine ak ?_
   refine ae ?_
   repeat (first|refine ah ?_|refine ag ?_|refine aY ?_)
   refine au ?_
   refine ak ?_
   refine ae ?_
   repeat (first|refine ah ?_|refine ag ?_|refine aY ?_)
   refine ax ?_
   refine ae ?_
   repeat (first|refine ah ?_|refine ag ?_|refine dh ?_|refine aC ?_|refine iI ?_)
   exact dO [8,9] _ (rfl) (key { s with num:=by_ } ⟨Nat.le_succ _,rfl⟩)
  ·refine ak ?_
   refine ae ?_
   repeat (first|refine ah ?_|refine ag ?_|refine aY ?_)
   refine au ?_
   refine ak ?_
   refine ae ?_
   repeat (first|refine ah ?_|refine ag ?_|refine aY ?_)
   refine au ?_
   refine ak ?_
   refine ae ?_
   repeat (first|refine ah ?_|refine ag ?_|refine aY ?_)
   refine au ?_
   refine ak ?_
   refine ae ?_
   repeat (first|refine ah ?_|refine ag ?_|refine aY ?_)
   refine au ?_
   refine ak ?_
   refine ae ?_
   repeat (first|refine ah ?_|refine ag ?_|refine aY ?_)
   refine ax ?_
   refine ae ?_
   repeat (first|refine ah ?_|refine ag ?_|refine dh ?_|refine aC ?_|refine iI ?_)
   exact dO [8,9] _ (rfl) (key { s with den:=by_ } ⟨Nat.le_succ _,rfl⟩)
  ·refine ak ?_
   refine ae ?_
   repeat (first|refine ah ?_|refine ag ?_|refine aY ?_)
   refine au ?_
   refine ak ?_
   refine ae ?_
   repeat (first|refine ah ?_|refine ag ?_|refine aY ?_)
   refine au ?_
   refine ak ?_
   refine ae ?_
   repeat (first|refine ah ?_|refine ag ?_|refine aY ?_)
   refine au ?_
   refine ak ?_
   refine ae ?_
   repeat (first|refine ah ?_|refine ag ?_|refine aY ?_)
   refine au ?_
   refine ak ?_
   refine ae ?_
   repeat (first|refine ah ?_|refine ag ?_|refine aY ?_)
   refine au ?_
   refine ak ?_
   refine ae ?_
   repeat (first|refine ah ?_|refine ag ?_|refine aY ?_)
   refine ax ?_
   by_cases hn:0<s.flow.length
   ·refine ak ?_
    refine ae ?_
    repeat (first|refine aH ?_|refine ag ?_|refine eH (by rfl) ?_|refine bn ?_|refine aC ?_)
    refine ax ?_
    refine ak ?_
    refine ae ?_
    repeat (first|refine ah ?_|refine aH ?_|refine eH (by rfl) ?_|refine aC ?_)
    refine bf aJ dI (iZ at_ s.flow.length hn (by omega) ha.1 ha.2) ?_
    rintro _ ⟨p,rfl,hp⟩
    refine ⟨dE,_,_,_,_,_,dw,(by decide),aQ,?_⟩
    repeat (first|refine ah ?_|refine ag ?_)
    obtain ⟨x,hx⟩:∃x,s.flow.getD p 0=x:=⟨_,rfl⟩
    refine bQ bi bi (fun _ _ _=>False) ?_
    repeat (first|refine ah ?_|refine bY ?_|refine gJ (by rfl) dm (by (try simp (disch:=omega) only [go_sem,reduceIte,Nat.reduceEqDiff,Nat.reduceAdd,Nat.reduceMul,hx]);try rfl) aT (by (try simp (disch:=omega) only [go_sem,hx]);try rfl) fP ?_|refine ag ?_|refine di (by rfl) (by rfl) (by (try simp (disch:=omega) only [go_sem,Int.reduceAdd,Int.reduceSub,Int.reduceMul,hx]);try rfl) ?_|refine dh ?_|refine aC ?_|refine yU (by rfl) fP bW qp (by rfl) (by decide) dm bW aT (by (try simp (disch:=omega) only [go_sem,hx]);try rfl) bW ?_)
    have hk:=key { s with flow:=s.flow.set p (IntKind.i64.wrap (x+((z:Int) - 2))) } ⟨by show s.set.length<=_;omega,by show (List.set _ _ _).length=_;rw [List.length_set]⟩
    simp only [List.length_set] at hk
    exact dO [8,9] _ rfl hk
   ·refine ak ?_
    refine ae ?_
    repeat (first|refine aH ?_|refine ag ?_|refine eH (by rfl) ?_|refine bn ?_|refine aC ?_)
    refine au ?_
    refine aA ?_
    repeat (first|refine dh ?_)
    exact dO [8,9] _ (rfl) (key s ⟨Nat.le_succ _,rfl⟩)
  ·refine ak ?_
   refine ae ?_
   repeat (first|refine ah ?_|refine ag ?_|refine aY ?_)
   refine au ?_
   refine ak ?_
   refine ae ?_
   repeat (first|refine ah ?_|refine ag ?_|refine aY ?_)
   refine au ?_
   refine ak ?_
   refine ae ?_
   repeat (first|refine ah ?_|refine ag ?_|refine aY ?_)
   refine au ?_
   refine ak ?_
   refine ae ?_
   repeat (first|refine ah ?_|refine ag ?_|refine aY ?_)
   refine au ?_
   refine ak ?_
   refine ae ?_
   repeat (first|refine ah ?_|refine ag ?_|refine aY ?_)
   refine au ?_
   refine ak ?_
   refine ae ?_
   repeat (first|refine ah ?_|refine ag ?_|refine aY ?_)
   refine au ?_
   refine ak ?_
   refine ae ?_
   repeat (first|refine ah ?_|refine ag ?_|refine aY ?_)
   refine ax ?_
   refine ae ?_
   repeat (first|refine ah ?_|refine aH ?_|refine ag ?_|refine bz ?_|refine dh ?_|refine aC ?_|refine iI ?_)
   exact dO [8,9] _ (rfl) (key { s with bound:=IntKind.i64.wrap (s.bound+((z:Int) - 2)) } ⟨Nat.le_succ _,rfl⟩)
  ·refine ak ?_
   refine ae ?_
   repeat (first|refine ah ?_|refine ag ?_|refine aY ?_)
   refine au ?_
   refine ak ?_
   refine ae ?_
   repeat (first|refine ah ?_|refine ag ?_|refine aY ?_)
   refine au ?_
   refine ak ?_
   refine ae ?_
   repeat (first|refine ah ?_|refine ag ?_|refine aY ?_)
   refine au ?_
   refine ak ?_
   refine ae ?_
   repeat (first|refine ah ?_|refine ag ?_|refine aY ?_)
   refine au ?_
   refine ak ?_
   refine ae ?_
   repeat (first|refine ah ?_|refine ag ?_|refine aY ?_)
   refine au ?_
   refine ak ?_
   refine ae ?_
   repeat (first|refine ah ?_|refine ag ?_|refine aY ?_)
   refine au ?_
   refine ak ?_
   refine ae ?_
   repeat (first|refine ah ?_|refine ag ?_|refine aY ?_)
   refine au ?_
   refine ak ?_
   refine ae ?_
   repeat (first|refine ah ?_|refine ag ?_|refine aY ?_)
   refine ax ?_
   have hsn:HL.bools s.set++[HV.bool false]=HL.bools (s.set++[false]):=by simp [HL.bools]
   refine ae ?_
   repeat (first|refine gJ (by rfl) dm (by (try simp (disch:=omega) only [go_sem,reduceIte,Nat.reduceEqDiff,Nat.reduceAdd,Nat.reduceMul,hsn]);try rfl) aT (by (try simp (disch:=omega) only [go_sem,hsn]);try rfl) fP ?_|refine ag ?_|refine dh ?_|refine aC ?_|refine J6 (by rfl) fP bW yK KE (by rfl) OY (by rfl) O6 (by (try simp (disch:=omega) only [go_sem,reduceIte,Nat.reduceEqDiff,Nat.reduceAdd,Nat.reduceMul,hsn]);try rfl) aT (by (try simp (disch:=omega) only [go_sem,hsn]);try rfl) bW O9 ?_|refine dF ?_|refine jq gU (by rfl) fP AY (by (try simp (disch:=omega) only [go_sem,reduceIte,Nat.reduceEqDiff,Nat.reduceAdd,Nat.reduceMul,hsn]);try omega) dm (by (try simp (disch:=omega) only [go_sem,reduceIte,Nat.reduceEqDiff,Nat.reduceAdd,Nat.reduceMul,hsn]);try rfl) gU (by omega) jT aT (by (try simp (disch:=omega) only [go_sem,reduceIte,Nat.reduceEqDiff,Nat.reduceAdd,Nat.reduceMul,hsn]);try rfl) bW ?_)
   exact dO [8,9] _ (by simp only [List.length_append,List.length_cons,List.length_nil,Nat.zero_add];rfl) (key { s with set:=s.set++[false] } ⟨by simp,rfl⟩)
  ·refine ak ?_
   refine ae ?_
   repeat (first|refine ah ?_|refine ag ?_|refine aY ?_)
   refine au ?_
   refine ak ?_
   refine ae ?_
   repeat (first|refine ah ?_|refine ag ?_|refine aY ?_)
   refine au ?_
   refine ak ?_
   refine ae ?_
   repeat (first|refine ah ?_|refine ag ?_|refine aY ?_)
   refine au ?_
   refine ak ?_
   refine ae ?_
   repeat (first|refine ah ?_|refine ag ?_|refine aY ?_)
   refine au ?_
   refine ak ?_
   refine ae ?_
   repeat (first|refine ah ?_|refine ag ?_|refine aY ?_)
   refine au ?_
   refine ak ?_
   refine ae ?_
   repeat (first|refine ah ?_|refine ag ?_|refine aY ?_)
   refine au ?_
   refine ak ?_
   refine ae ?_
   repeat (first|refine ah ?_|refine ag ?_|refine aY ?_)
   refine au ?_
   refine ak ?_
   refine ae ?_
   repeat (first|refine ah ?_|refine ag ?_|refine aY ?_)
   refine au ?_
   refine ae ?_
   repeat (first|refine aH ?_|refine ag ?_|refine dh ?_|refine xG (by rfl) (by (try simp only [go_sem,reduceIte]);try rfl) ?_|refine aC ?_|refine iI ?_)
   exact dO [8,9] _ (rfl) (key { s with exact:=!s.exact } ⟨Nat.le_succ _,rfl⟩)
 ·intro t ht
  have hE:(stripL (HL.bools t.set),stripL (HL.ints t.flow))=(HL.bools t.set,HL.ints t.flow):=by rw [HL.bools_strip,HL.ints_strip]
  refine jb 1 [8,9] (⟨[(8,.pref 0 [] 0),(9,.pref 1 [] 0)],[(0,.optr [.nils,.int .i64 0,.int .i64 0,.int .i64 0,.int .i64 0,.nils,.int .i64 0,.bool false]),(1,.optr [.sl t.set.length (HL.bools t.set),.int .i64 t.worth,.int .i64 t.cost,.int .i64 t.num,.int .i64 t.den,.sl t.flow.length (HL.ints t.flow),.int .i64 t.bound,.bool t.exact])],2⟩:St) rfl (congrArg (fun c:List HV×List HV=>(⟨[(8,.pref 0 [] 0),(9,.pref 1 [] 0)],[(0,.optr [.nils,.int .i64 0,.int .i64 0,.int .i64 0,.int .i64 0,.nils,.int .i64 0,.bool false]),(1,.optr [.sl t.set.length (c.1),.int .i64 t.worth,.int .i64 t.cost,.int .i64 t.num,.int .i64 t.den,.sl t.flow.length (c.2),.int .i64 t.bound,.bool t.exact])],2⟩:St)) hE) ?_
  repeat (first|refine ag ?_|refine ak ?_|refine ae ?_|refine bM ?_|refine dn ?_)
  refine ay ?_
  exact ⟨_,_,rfl,rfl,t,rfl,ht⟩
end Go.Proofs.Yteamkjblpglliaa
end
section
set_option linter.unusedSimpArgs false
set_option linter.unusedVariables false
namespace Go.HL
open Go.RowKit
mutual
def HV.rdb:HV->Bool
 | .osl ..=>false
 | .optr _=>false
 | .ref ..=>false
 | .pref ..=>false
 | .sl _ cs=>ja cs
 | .ptr cs _=>ja cs
 | .agg cs=>ja cs
 | .tup cs=>ja cs
 | .fn _ cs=>ja cs
 | _=>true
def ja:List HV->Bool
 | []=>true
 | v::r=>v.rdb&&ja r
end
def hext (h h':Hp):Prop:=h.size<=h'.size/\∀b,b<h.size->h'[b]?=h[b]?
theorem hext.refl (h:Hp):hext h h:=⟨Nat.le_refl _,fun _ _=>rfl⟩
theorem hext.trans {a b c:Hp} (h1:hext a b) (h2:hext b c):hext a c:=⟨Nat.le_trans h1.1 h2.1,fun x hx=>(h2.2 x (Nat.lt_of_lt_of_le hx h1.1)).trans (h1.2 x hx)⟩
theorem hext.push (h:Hp) (o:Obj):hext h (h.push o):=⟨by simp,fun b hb=>by rw [Array.getElem?_push,if_neg (by omega)]⟩
theorem OW.ext {h h':Hp} (he:hext h h') {vs:List HV} {rvs:List Value} (o:OW (fun b=>b<h.size) h dN vs rvs []):OW (fun b=>b<h'.size) h' dN vs rvs [] :=
 o.stable (by simp) (fun b hb=>⟨Nat.lt_of_lt_of_le hb he.1,he.2 b hb⟩) (fun _ _ h=>h)
mutual
theorem real:∀ (v:HV),v.rdb=true->∀h:Hp,∃h' rv,hext h h'/\OW (fun b=>b<h'.size) h' dN [v] [rv] []
 | .int k n,_,h=>⟨h,_,hext.refl h,.int .nil⟩
 | .bool b,_,h=>⟨h,_,hext.refl h,.bool .nil⟩
 | .str s,_,h=>⟨h,_,hext.refl h,.str .nil⟩
 | .nils,_,h=>⟨h,_,hext.refl h,.nils .nil⟩
 | .nilp,_,h=>⟨h,_,hext.refl h,.nilp .nil⟩
 | .nilf,_,h=>⟨h,_,hext.refl h,.nilf .nil⟩
 | .dead,_,h=>⟨h,undef,hext.refl h,.dead .nil⟩
 | .sl n cs,hr,h=>by
  obtain ⟨h1,rvs,e1,o1⟩:=xB cs (by simpa [HV.rdb] using hr) h
  have e2:=hext.push h1 (.cells rvs.toArray 0 (0,0))
  refine ⟨_,.slice (some ⟨h1.size,0,none⟩) n n,e1.trans e2,.sl (cur:=rvs.toArray) (e:=0) (fr:=(0,0)) (off:=0) (by simp) (by simp) ?_ (Nat.le_refl n) (o1.ext e2) .nil⟩
  have:=o1.length
  simp [List.take_of_length_le (Nat.le_of_eq this.symm)]
 | .ptr cs off,hr,h=>by
  obtain ⟨h1,rvs,e1,o1⟩:=xB cs (by simpa [HV.rdb] using hr) h
  have e2:=hext.push h1 (.cells rvs.toArray 0 (0,0))
  refine ⟨_,.pointer (some ⟨h1.size,0+off,none⟩),e1.trans e2,.ptr (cur:=rvs.toArray) (e:=0) (fr:=(0,0)) (base:=0) (by simp) (by simp) ?_ (o1.ext e2) .nil⟩
  have:=o1.length
  simp [List.take_of_length_le (Nat.le_of_eq this.symm)]
 | .agg cs,hr,h=>by
  obtain ⟨h1,rvs,e1,o1⟩:=xB cs (by simpa [HV.rdb] using hr) h
  exact ⟨h1,_,e1,by simpa using OW.agg o1 .nil⟩
 | .tup cs,hr,h=>by
  obtain ⟨h1,rvs,e1,o1⟩:=xB cs (by simpa [HV.rdb] using hr) h
  exact ⟨h1,_,e1,by simpa using OW.tup o1 .nil⟩
 | .fn f cs,hr,h=>by
  obtain ⟨h1,rvs,e1,o1⟩:=xB cs (by simpa [HV.rdb] using hr) h
  exact ⟨h1,_,e1,by simpa using OW.fn o1 .nil⟩
 | .osl ..,hr,_=>by simp [HV.rdb] at hr
 | .optr _,hr,_=>by simp [HV.rdb] at hr
 | .ref ..,hr,_=>by simp [HV.rdb] at hr
 | .pref ..,hr,_=>by simp [HV.rdb] at hr
theorem xB:∀ (vs:List HV),ja vs=true->∀h:Hp,∃h' rvs,hext h h'/\OW (fun b=>b<h'.size) h' dN vs rvs []
 | [],_,h=>⟨h,[],hext.refl h,.nil⟩
 | v::r,hr,h=>by
  simp only [ja,Bool.and_eq_true] at hr
  obtain ⟨h1,rv,e1,o1⟩:=real v hr.1 h
  obtain ⟨h2,rr,e2,o2⟩:=xB r hr.2 h1
  exact ⟨h2,_,e1.trans e2,by simpa using (o1.ext e2).cons1 o2⟩
end
theorem OW.noNames {F:Nat->Prop} {h:Hp} {R:HV->Value->Prop} {vs:List HV} {rvs:List Value} {fs:List Nat} (o:OW F h R vs rvs fs) (hR:∀v rv,¬ R v rv):cu vs=[]:=by
 induction o with
 | nil=>rfl
 | leaf _ _ _ _ _ _ g=>exact absurd g (hR _ _)
 | int _ ih=>simp [cu,HV.deep,ih hR]
 | bool _ ih=>simp [cu,HV.deep,ih hR]
 | str _ ih=>simp [cu,HV.deep,ih hR]
 | nils _ ih=>simp [cu,HV.deep,ih hR]
 | nilp _ ih=>simp [cu,HV.deep,ih hR]
 | nilf _ ih=>simp [cu,HV.deep,ih hR]
 | dead _ ih=>simp [cu,HV.deep,ih hR]
 | sl0 _ ih=>simp [cu,HV.deep,ih hR]
 | sl _ _ _ _ _ _ ih1 ih2=>simp [cu,HV.deep,ih1 (fun _ _ h=>h),ih2 hR]
 | osl0 _ ih=>simp [cu,HV.deep,ih hR]
 | osl _ _ _ _ _ _ _ _ ih1 ih2=>simp [cu,HV.deep,ih1 (fun _ _ h=>h),ih2 hR]
 | ptr _ _ _ _ _ ih1 ih2=>simp [cu,HV.deep,ih1 (fun _ _ h=>h),ih2 hR]
 | optr _ _ _ ih1 ih2=>simp [cu,HV.deep,ih1 (fun _ _ h=>h),ih2 hR]
 | agg _ _ ih1 ih2=>simp [cu,HV.deep,ih1 hR,ih2 hR]
 | tup _ _ ih1 ih2=>simp [cu,HV.deep,ih1 hR,ih2 hR]
 | fn _ _ ih1 ih2=>simp [cu,HV.deep,ih1 hR,ih2 hR]
theorem HT.ex {P:Program} {f:FuncId} {args:List HV} {K:HV->Prop} (h:HT P f args K) (hr:ja args=true):∃r,K r/\r.deep=[]:=by
 obtain ⟨hp,rvs,-,o⟩:=xB args hr #[]
 have:=h.2 { (default:World) with heap:=hp } rvs (fun b=>b<hp.size) (fun b hb=>hb) o
 obtain ⟨e,w',fr,⟨rv,res,fs,-,hk,ho,-⟩,-⟩:=this []
 refine ⟨res,hk,?_⟩
 have:=ho.noNames (fun _ _ h=>h)
 simpa [cu] using this
end Go.HL
end
