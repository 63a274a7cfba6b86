import Derived.Test.YtlbdmpjnmfmnfaaFu3
import Derived.Test.YtlbdmpjnmfmnfaaFt7
import Derived.Test.YtlbdmpjnmfmnfaaFtZ
import Derived.Test.YtlbdmpjnmfmnfaaFs2
import Derived.Test.YtlbdmpjnmfmnfaaFsQ
section
set_option linter.unusedSimpArgs false
set_option linter.unusedVariables false
namespace Go.Proofs.Ytlbdmpjnmfmnfaa
open Go.RowKit Go.HL Go.FS
theorem Weak.slotF {s:St} (t:Nat) (v:HV) (h:∀ (F:Nat->Prop) (h:Hp) (R:HV->Value->Prop) (rv:Value),OW F h R [aH t s.sl] [rv] []->OW F h R [v] [rv] []):Weak s ⟨(t,v)::s.sl,s.st,s.nx⟩:=by
 intro E a w ⟨loc,fp,hr⟩
 refine ⟨loc,fp,⟨hr.below,hr.base,hr.size,hr.tree,hr.gone,hr.new,hr.nodup,hr.apart,hr.fresh,fun t'=>?_,hr.defers⟩⟩
 show OW _ _ _ [aH t' (_::_)] _ _
 simp only [aH]
 by_cases e:t=t'
 ·subst e
  rw [if_pos rfl]
  exact h _ _ _ _ (hr.slots t)
 ·rw [if_neg e];exact hr.slots t'
theorem wL {P:Program} {k:List HI} {Q:HE->St->Prop} {x:HCode} {sl st:List (Nat×HV)} {nx:Nat} (t:Nat) (l:List (List Int)) (ht:aH t sl=.sl l.length (wds l)) (h:hx P (.c x::k) Q ⟨(t,.sl l.length (gr l))::sl,st,nx⟩):hx P (.c x::k) Q ⟨sl,st,nx⟩ :=
 kY (Weak.slotF (s:=⟨sl,st,nx⟩) t (.sl l.length (gr l)) (fun F hp R rv o=>by
  have:=FI (show OW F hp R [.sl l.length (wds l)] [rv] [] by rw [<- ht];exact o)
  simpa only [List.map_cons,List.map_nil,Ye,O5] using this)) h
theorem OO {al bl:List A} {fs ft:List Bool} {st:CS} (h1:okF fs al=true) (h2:okF ft bl=true) (hc:rP al bl=some st) (hl1:st.1.length<=2048) (hl2:st.2.length<=8192):okF (gB fs ft st.1) st.2=true:=by
 have hv:=vF hc
 obtain ⟨t,ht⟩:=hv.hd
 have hlen:(gB fs ft st.1).length=st.1.length:=by simp [gB]
 simp only [okF,Bool.and_eq_true,decide_eq_true_eq,List.all_eq_true]
 rw [hlen]
 refine ⟨⟨by rw [ht];simp,hl1,hl2⟩,fun c hc=>okA_iff.2 ?_⟩
 obtain ⟨j,hj,x,hx,hxm,rfl⟩:=hv.sub c hc
 have hi:=uo hxm
 have hb : -1<=x.1/\x.1<64 /\ -1<=x.2.1/\x.2.1<64:=by
  rcases mem_stps.1 hx with ⟨b,hb,_,rfl⟩|⟨a,ha,_,rfl⟩|⟨a,ha,b,hb,_,_,rfl⟩
  ·have:=fU h2 (mem_outA.1 hb).1;simp only;omega
  ·have:=fU h1 (mem_outA.1 ha).1;simp only;omega
  ·have:=fU h1 (mem_outA.1 ha).1;have:=fU h2 (mem_outA.1 hb).1;simp only;omega
 simp only
 omega
theorem Ic {al bl:List A} {fs ft:List Bool} (h1:okF fs al=true) (h2:okF ft bl=true) (hp:fs.length*ft.length<=2048) (hc:LY al bl fs.length ft.length<=8192) :
  ∃F R,qW fs ft al bl=((F,R),0)/\okF F R=true/\F.length<=fs.length*ft.length/\R.length<=LY al bl fs.length ft.length/\∀w v,Out F R w v <-> ∃m,Out fs al w m/\Out ft bl m v:=by
 obtain ⟨g1,_,_⟩:=jH h1
 obtain ⟨g2,_,_⟩:=jH h2
 obtain ⟨st,hst,hl1,hl2,hin⟩:=Eb (al:=al) (bl:=bl) (n:=fs.length) (m:=ft.length) (fun a ha=>by have:=fU h1 ha;omega) (fun b hb=>by have:=fU h2 hb;omega) (by omega) (by omega) hp hc
 refine ⟨gB fs ft st.1,st.2,?_,OO h1 h2 hst (by omega) (by omega),by simpa [gB] using hl1,hl2,fun w v=>LC hst fun v hv=>⟨(hin v hv).1,(hin v hv).2.2.1⟩⟩
 unfold qW
 rw [if_pos ⟨h1,h2⟩,hst]
structure CA (ft:List Bool) (bl:List A) (l:List (List Int)) (i:Nat) (known:Bool) (all:List (List Int)):Prop where
 srt:JG all
 kn:known=true->(∀j,j<i->(mY ft bl (l.getD j []) 20).2=0)/\∀v,v∈all <-> ∃j,j<i/\v∈(mY ft bl (l.getD j []) 20).1
 sht:∀u∈all,u.length<=10000000
theorem CA.start {ft:List Bool} {bl:List A} {l:List (List Int)}:CA ft bl l 0 true []:=⟨List.Pairwise.nil,fun _=>⟨fun j hj=>by omega,fun v=>by simp⟩,by simp⟩
theorem Ji {x:List (List Int)}:∀ {k:Nat} {all:List (List Int)},k<=x.length->∀v,v∈(x.take k).foldl (fun a w=>jJ w a) all <-> v∈all\/v∈x.take k:=by
 induction x with
 | nil=>intro k all hk v;simp
 | cons w x ih =>
  intro k all hk v
  cases k with
  | zero=>simp
  | succ k =>
   simp only [List.take_succ_cons,List.foldl_cons,List.mem_cons]
   rw [ih (by simpa using hk),mem_insW]
   constructor
   ·rintro ((h|h)|h)
    ·exact .inr (.inl h)
    ·exact .inl h
    ·exact .inr (.inr h)
   ·rintro (h|h|h)
    ·exact .inl (.inr h)
    ·exact .inl (.inl h)
    ·exact .inr h
def insL (x all:List (List Int)):List (List Int):=x.foldl (fun a w=>jJ w a) all
theorem Hu {x all:List (List Int)} {k:Nat} (hk:k<x.length):insL (x.take (k+1)) all=jJ (x.getD k []) (insL (x.take k) all):=by
 unfold insL
 rw [dh hk,List.foldl_append];rfl
theorem IW {x:List (List Int)}:∀ {all:List (List Int)},JG all->JG (insL x all):=by
 induction x with
 | nil=>intro all h;exact h
 | cons w x ih=>intro all h;exact ih (Cc h)
theorem Dj {x:List (List Int)}:∀ {all:List (List Int)},(insL x all).length<=all.length+x.length:=by
 induction x with
 | nil=>intro all;simp [insL]
 | cons w x ih =>
  intro all
  have:=ih (all:=jJ w all)
  have h2:=Aq w all
  show (insL x (jJ w all)).length<=_
  simp only [List.length_cons];omega
theorem mem_insL {x all:List (List Int)} {v:List Int}:v∈insL x all <-> v∈all\/v∈x:=by
 have:=Ji (x:=x) (k:=x.length) (all:=all) (Nat.le_refl _) v
 rw [List.take_length] at this
 exact this
theorem CA.step {ft:List Bool} {bl:List A} {l:List (List Int)} {i:Nat} {known:Bool} {all:List (List Int)} (h:CA ft bl l i known all):CA ft bl l (i+1) (known&&decide ((mY ft bl (l.getD i []) 20).2=0)) (insL (mY ft bl (l.getD i []) 20).1 all):=by
 refine ⟨IW h.srt,fun hk=>?_,fun u hu=>?_⟩
 ·rw [Bool.and_eq_true,decide_eq_true_eq] at hk
  obtain ⟨h1,h2⟩:=h.kn hk.1
  refine ⟨fun j hj=>?_,fun v=>?_⟩
  ·by_cases e:j=i
   ·subst e;exact hk.2
   ·exact h1 j (by omega)
  ·rw [mem_insL,h2]
   constructor
   ·rintro (⟨j,hj,hv⟩|hv)
    ·exact ⟨j,by omega,hv⟩
    ·exact ⟨i,by omega,hv⟩
   ·rintro ⟨j,hj,hv⟩
    by_cases e:j=i
    ·subst e;exact .inr hv
    ·exact .inl ⟨j,by omega,hv⟩
 ·rcases mem_insL.1 hu with hu|hu
  ·exact h.sht u hu
  ·exact (uV ft bl (l.getD i []) 20).2 u hu
theorem Jn {fs ft F:List Bool} {al bl R:List A} {w:List Int} {all:List (List Int)} {known:Bool} (hok:okF F R=true) (hw:w.length<=1024) (hout:∀w v,Out F R w v <-> ∃m,Out fs al w m/\Out ft bl m v) (he:(mY fs al w 20).2=0) (hA:CA ft bl (mY fs al w 20).1 (mY fs al w 20).1.length known all) (hk:known=true) :
  (all.length<=64->mY F R w 64=(all,0))/\(64<all.length->(mY F R w 64).2=4):=by
 obtain ⟨h1,h2⟩:=hA.kn hk
 have hokk:qR F R w 64:=⟨hok,by omega,by omega,hw⟩
 have hm:∀v,v∈all <-> Out F R w v:=fun v=>by
  rw [h2,hout]
  constructor
  ·rintro ⟨j,hj,hv⟩
   refine ⟨(mY fs al w 20).1.getD j [],(vk he).1 ?_,(vk (h1 j hj)).1 hv⟩
   rw [List.getD_eq_getElem?_getD,List.getElem?_eq_getElem hj];exact List.getElem_mem hj
  ·rintro ⟨m,hm1,hm2⟩
   have:=(vk he).2 hm1
   obtain ⟨j,hj,rfl⟩:=List.getElem_of_mem this
   have e:(mY fs al w 20).1.getD j []=(mY fs al w 20).1[j]:=by
    rw [List.getD_eq_getElem?_getD,List.getElem?_eq_getElem hj];rfl
   refine ⟨j,hj,?_⟩
   rw [e]
   have h3:=h1 j hj
   rw [e] at h3
   exact (vk h3).2 hm2
 have hk:=sS hok
 refine ⟨fun hl=>ML hokk (Oh hk hA.srt hm (by omega)),fun hl=>?_⟩
 rw [Rw hokk (Nj hk hA.srt hm (by omega))]
end Go.Proofs.Ytlbdmpjnmfmnfaa
end
section
set_option linter.unusedSimpArgs false
set_option linter.unusedVariables false
namespace Go.Proofs.Ytlbdmpjnmfmnfaa
open Go.RowKit Go.HL Go.FS
theorem JW (l:List Int) (m:Nat) (hl:l.length<=9223372036854775807) (hm:m<=1000) (hr:∀k,k<l.length -> -9223372036854775808<=l.getD k 0/\l.getD k 0<=9223372036854775807):HT Try.prog 14 [I l,.int .i64 m] (fun r=>∃u:List Int,r=.osl 1 u.length (HL.ints u)/\u.length<=m):=by
 refine HT.of rfl Yi (Nat.le_of_ble_eq_true rfl) ?_
 unfold c14
 simp only [I,aW,Nat.reduceAdd]
 repeat (first|refine ag ?_|refine af ?_|refine ah ?_|refine ae ?_|refine aG ?_|refine bG ?_)
 refine cu [0,1,5,6] (fun u:List Int=>u.length<=m/\u.length<=l.length)
  (fun u=>⟨[(0,.sl l.length (HL.ints l)),(1,.int .i64 m),(5,.ref 0 [] 1 0 u.length),(6,.int .i64 u.length)],[(0,.osl 1 u.length (HL.ints u))],1⟩)
  (fun u=>m - u.length) [] ⟨by simp,by simp⟩ rfl ?_
 rintro u ⟨h1,h2⟩
 by_cases c1:u.length<l.length
 ·by_cases c2:u.length<m
  ·have hh:=hr u.length c1
   have hsn:∀x:Int,(u++[x]).length=u.length+1:=by simp
   repeat (first|refine ag ?_|refine aQ ?_|refine aT ?_|refine bU ?_|refine af ?_|refine az ?_|refine aO ?_|refine aP ?_|refine ak ?_|refine ah ?_|refine ae ?_|refine aG ?_|refine aA ?_)
   refine bZ bJ cZ (yO (l.getD u.length 0) 3 (by omega) (by omega) hh.1 hh.2) ?_
   rintro _ ⟨y,rfl,hy⟩
   refine ⟨bP,_,_,_,_,_,gV,(by decide),bH,?_⟩
   repeat (first|refine ag ?_|refine af ?_|refine bz ?_|refine ae ?_|refine fJ ?_|refine bQ ?_|refine gZ ?_)
   exact dC [0,1,5,6] (u++[(y:Int)]) ⟨by rw [hsn];omega,by rw [hsn];omega⟩ (by rw [hsn];omega) (by rw [hsn];rfl)
  ·repeat (first|refine ag ?_|refine aQ ?_|refine af ?_|refine az ?_|refine aO ?_|refine aP ?_|refine bF (by rfl) ?_|refine au ?_|refine ah ?_|refine ae ?_)
   refine ax ?_
   exact ⟨u,rfl,h1⟩
 ·repeat (first|refine ag ?_|refine dm ?_|refine af ?_|refine az ?_|refine aK ?_|refine aP ?_|refine bF (by rfl) ?_|refine au ?_|refine ah ?_|refine ae ?_)
  refine ax ?_
  exact ⟨u,rfl,h1⟩
end Go.Proofs.Ytlbdmpjnmfmnfaa
end
