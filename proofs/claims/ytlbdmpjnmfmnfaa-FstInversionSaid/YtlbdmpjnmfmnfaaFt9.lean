import Derived.Test.YtlbdmpjnmfmnfaaFt1
import Derived.Test.YtlbdmpjnmfmnfaaFsZ
import Derived.Test.YtlbdmpjnmfmnfaaFsQ
set_option linter.unusedSimpArgs false
set_option linter.unusedVariables false
namespace Go.Proofs.Ytlbdmpjnmfmnfaa
open Go.RowKit Go.HL Go.FS
open Classical in
noncomputable def og (fin:List Bool) (al:List A) (w:List Int) (most:Int):List (List Int)×Int :=
 if rH fin al w most then (if h:∃l,Lst fin al w most l then (h.choose,0) else ([],4)) else ([],1)
theorem uV {fin:List Bool} {al:List A} (h:okF fin al=true):uz al:=fun a ha=>by have:=gJ h ha;omega
theorem Wh {fin:List Bool} {al:List A} {w:List Int} {most:Int} {r:HV} (h:JJ fin al w most r):r=.tup [.osl 1 (og fin al w most).1.length (wds (og fin al w most).1),.int .i64 (og fin al w most).2]:=by
 unfold JJ at h
 unfold og
 by_cases ho:rH fin al w most
 ·rw [if_pos ho] at h
  rw [if_pos ho]
  rcases h with ⟨l,h1,rfl⟩|⟨h1,rfl⟩
  ·have he:∃l,Lst fin al w most l:=⟨l,h1⟩
   rw [dif_pos he]
   have:=he.choose_spec.uniq (uV ho.1) h1
   rw [this]
  ·rw [dif_neg (fun ⟨l,hl⟩=>h1 l hl)];rfl
 ·rw [if_neg ho] at h
  rw [if_neg ho,h];rfl
theorem zl {fin:List Bool} {al:List A} {w:List Int} {most:Int} (h:(og fin al w most).2=0):rH fin al w most/\Lst fin al w most (og fin al w most).1:=by
 unfold og at h ⊢
 by_cases ho:rH fin al w most
 ·rw [if_pos ho] at h ⊢
  by_cases he:∃l,Lst fin al w most l
  ·rw [dif_pos he] at h ⊢;exact ⟨ho,he.choose_spec⟩
  ·rw [dif_neg he] at h;cases h
 ·rw [if_neg ho] at h;cases h
theorem yF (fin:List Bool) (al:List A) (w:List Int) (most:Int):(og fin al w most).2=0\/((og fin al w most).1=[]/\((og fin al w most).2=4\/(og fin al w most).2=1)):=by
 unfold og
 by_cases ho:rH fin al w most
 ·rw [if_pos ho]
  by_cases he:∃l,Lst fin al w most l
  ·rw [dif_pos he];exact .inl rfl
  ·rw [dif_neg he];exact .inr ⟨rfl,.inl rfl⟩
 ·rw [if_neg ho];exact .inr ⟨rfl,.inr rfl⟩
open Classical in
theorem Nu {fin:List Bool} {al:List A} {w:List Int} {most:Int} {l:List (List Int)} (ho:rH fin al w most) (h:Lst fin al w most l):l.length<=64/\∀u∈l,u.length<=10000000:=by
 have hv:=ho.1
 have hk:=uV hv
 have hw:=ho.2.2.2
 obtain ⟨h1,h2,h3⟩:=jZ hv
 refine ⟨by obtain ⟨n,_,_,h5⟩:=h;have:=ho.2.2.1;omega,fun u hu=>?_⟩
 have hin:∀a∈al,0<=a.f/\a.f<fin.length:=fun a ha=>by have:=gJ hv ha;omega
 have hG:∀x,x∈(nodes fin.length w.length).filter (fun x=>decide (FS.Good fin al w x)) <-> FS.Good fin al w x:=fun x=>by
  rw [List.mem_filter]
  simp only [decide_eq_true_eq]
  refine ⟨fun h=>h.2,fun h=>⟨?_,h⟩⟩
  exact tu (pW hin h)
 have h4:=xB hk hG h u hu
 have h5:=List.length_filter_le (fun x=>decide (FS.Good fin al w x)) (nodes fin.length w.length)
 rw [sN] at h5
 have h6:fin.length*(w.length+1)<=2048*1025:=Nat.mul_le_mul h2 (by omega)
 omega
theorem zq (fin:List Bool) (al:List A) (w:List Int) (most:Int):(og fin al w most).1.length<=64/\∀u∈(og fin al w most).1,u.length<=10000000:=by
 rcases yF fin al w most with h|⟨h,_⟩
 ·obtain ⟨h1,h2⟩:=zl h
  exact Nu h1 h2
 ·rw [h];simp
noncomputable def UK (fin:List Bool) (al:List A) (w:List Int) (most:Int):HV:=.tup [.osl 1 (og fin al w most).1.length (wds (og fin al w most).1),.int .i64 (og fin al w most).2]
theorem tH (fin:List Bool) (al:List A) (w:List Int) (most:Int) (hf:fin.length<=9223372036854775807) (ha:al.length<=9223372036854775807) (hwl:w.length<=9223372036854775807):HT Try.prog 17 [.agg (gQ fin al),.sl w.length (HL.ints w),.int .i64 most] (fun r=>r=UK fin al w most) :=
 (BC fin al w most hf ha hwl).mono fun _ h=>Wh h
theorem LM (u:List Int):(wR u).deep=[]:=by
 unfold wR;split
 ·rfl
 ·simp [HV.deep,nN]
theorem AY (l:List (List Int)):bf (wds l)=[]:=by
 induction l with
 | nil=>rfl
 | cons u l ih=>simp only [wds,List.map_cons,bf,LM,List.nil_append] at ih ⊢;exact ih
theorem jr (l:List (List Int)):stripL (wds l)=wds l:=by
 induction l with
 | nil=>rfl
 | cons u l ih =>
  have:(wR u).strip=wR u:=by
   unfold wR;split
   ·rfl
   ·simp [HV.strip,HL.ints_strip]
  simp only [wds,List.map_cons,stripL,this] at ih ⊢
  rw [ih]
def wE:Option (List Int)->HV
 | none=>.nils
 | some u=>.sl u.length (HL.ints u)
theorem Us (o:Option (List Int)):Q5 (wE o)=.sl (o.getD []).length (HL.ints (o.getD [])):=by cases o<;>rfl
theorem Hz (fin:List Bool) (al:List A) (o:Option (List Int)) (most:Int) (hf:fin.length<=9223372036854775807) (ha:al.length<=9223372036854775807) (hwl:(o.getD []).length<=9223372036854775807):HT Try.prog 17 [.agg (gQ fin al),wE o,.int .i64 most] (fun r=>r=UK fin al (o.getD []) most) :=
 HT.arg (fun F h rvs ow=>by
  have:=EW ow
  simp only [List.map_cons,List.map_nil,Us] at this
  exact this) (tH fin al (o.getD []) most hf ha hwl)
attribute [go_sem] List.length_map
end Go.Proofs.Ytlbdmpjnmfmnfaa
