import Derived.Test.YtlbdmpjnmfmnfaaFt1
import Derived.Test.YtlbdmpjnmfmnfaaFsZ
import Derived.Test.YtlbdmpjnmfmnfaaFsQ
import Derived.Test.YtlbdmpjnmfmnfaaFtX
import Derived.Test.YtlbdmpjnmfmnfaaFs7
section
set_option linter.unusedSimpArgs false
set_option linter.unusedVariables false
namespace Go.Proofs.Ytlbdmpjnmfmnfaa
open Go.RowKit Go.HL Go.FS
open Classical in
noncomputable def mY (fin:List Bool) (al:List A) (w:List Int) (most:Int):List (List Int)×Int :=
 if qR fin al w most then (if h:∃l,Lst fin al w most l then (h.choose,0) else ([],4)) else ([],1)
theorem sS {fin:List Bool} {al:List A} (h:okF fin al=true):qH al:=fun a ha=>by have:=fU h ha;omega
theorem WZ {fin:List Bool} {al:List A} {w:List Int} {most:Int} {r:HV} (h:Ku fin al w most r):r=.tup [.osl 1 (mY fin al w most).1.length (wds (mY fin al w most).1),.int .i64 (mY fin al w most).2]:=by
 unfold Ku at h
 unfold mY
 by_cases ho:qR fin al w most
 ·rw [if_pos ho] at h
  rw [if_pos ho]
  rcases h with ⟨l,h1,rfl⟩|⟨h1,rfl⟩
  ·have he:∃l,Lst fin al w most l:=⟨l,h1⟩
   rw [dif_pos he]
   have:=he.choose_spec.uniq (sS ho.1) h1
   rw [this]
  ·rw [dif_neg (fun ⟨l,hl⟩=>h1 l hl)];rfl
 ·rw [if_neg ho] at h
  rw [if_neg ho,h];rfl
theorem Kr {fin:List Bool} {al:List A} {w:List Int} {most:Int} (h:(mY fin al w most).2=0):qR fin al w most/\Lst fin al w most (mY fin al w most).1:=by
 unfold mY at h ⊢
 by_cases ho:qR fin al w most
 ·rw [if_pos ho] at h ⊢
  by_cases he:∃l,Lst fin al w most l
  ·rw [dif_pos he] at h ⊢;exact ⟨ho,he.choose_spec⟩
  ·rw [dif_neg he] at h;cases h
 ·rw [if_neg ho] at h;cases h
theorem ML {fin:List Bool} {al:List A} {w:List Int} {most:Int} (ho:qR fin al w most) {l:List (List Int)} (h:Lst fin al w most l):mY fin al w most=(l,0):=by
 unfold mY
 have he:∃l,Lst fin al w most l:=⟨l,h⟩
 rw [if_pos ho,dif_pos he,he.choose_spec.uniq (sS ho.1) h]
theorem Rw {fin:List Bool} {al:List A} {w:List Int} {most:Int} (ho:qR fin al w most) (h:∀l,¬ Lst fin al w most l):mY fin al w most=([],4):=by
 unfold mY
 rw [if_pos ho,dif_neg (fun ⟨l,hl⟩=>h l hl)]
theorem Fj (fin:List Bool) (al:List A) (w:List Int) (most:Int):(mY fin al w most).2=0\/((mY fin al w most).1=[]/\((mY fin al w most).2=4\/(mY fin al w most).2=1)):=by
 unfold mY
 by_cases ho:qR fin al w most
 ·rw [if_pos ho]
  by_cases he:∃l,Lst fin al w most l
  ·rw [dif_pos he];exact .inl rfl
  ·rw [dif_neg he];exact .inr ⟨rfl,.inl rfl⟩
 ·rw [if_neg ho];exact .inr ⟨rfl,.inr rfl⟩
open Classical in
theorem MQ {fin:List Bool} {al:List A} {w:List Int} {most:Int} {l:List (List Int)} (ho:qR fin al w most) (h:Lst fin al w most l):l.length<=64/\∀u∈l,u.length<=10000000:=by
 have hv:=ho.1
 have hk:=sS hv
 have hw:=ho.2.2.2
 obtain ⟨h1,h2,h3⟩:=jH hv
 refine ⟨by obtain ⟨n,_,_,h5⟩:=h;have:=ho.2.2.1;omega,fun u hu=>?_⟩
 have hin:∀a∈al,0<=a.f/\a.f<fin.length:=fun a ha=>by have:=fU hv ha;omega
 have hG:∀x,x∈(nodes fin.length w.length).filter (fun x=>decide (FS.Good fin al w x)) <-> FS.Good fin al w x:=fun x=>by
  rw [List.mem_filter]
  simp only [decide_eq_true_eq]
  refine ⟨fun h=>h.2,fun h=>⟨?_,h⟩⟩
  exact yD (rZ hin h)
 have h4:=GH hk hG h u hu
 have h5:=List.length_filter_le (fun x=>decide (FS.Good fin al w x)) (nodes fin.length w.length)
 rw [yC] at h5
 have h6:fin.length*(w.length+1)<=2048*1025:=Nat.mul_le_mul h2 (by omega)
 omega
theorem uV (fin:List Bool) (al:List A) (w:List Int) (most:Int):(mY fin al w most).1.length<=64/\∀u∈(mY fin al w most).1,u.length<=10000000:=by
 rcases Fj fin al w most with h|⟨h,_⟩
 ·obtain ⟨h1,h2⟩:=Kr h
  exact MQ h1 h2
 ·rw [h];simp
noncomputable def YG (fin:List Bool) (al:List A) (w:List Int) (most:Int):HV:=.tup [.osl 1 (mY fin al w most).1.length (wds (mY fin al w most).1),.int .i64 (mY fin al w most).2]
theorem uz (fin:List Bool) (al:List A) (w:List Int) (most:Int) (hf:fin.length<=9223372036854775807) (ha:al.length<=9223372036854775807) (hwl:w.length<=9223372036854775807):HT Try.prog 17 [.agg (gX fin al),.sl w.length (HL.ints w),.int .i64 most] (fun r=>r=YG fin al w most) :=
 (Am fin al w most hf ha hwl).mono fun _ h=>WZ h
theorem Nc (u:List Int):(wR u).deep=[]:=by
 unfold wR;split
 ·rfl
 ·simp [HV.deep,nH]
theorem Jp (l:List (List Int)):bn (wds l)=[]:=by
 induction l with
 | nil=>rfl
 | cons u l ih=>simp only [wds,List.map_cons,bn,Nc,List.nil_append] at ih ⊢;exact ih
theorem GY (l:List (List Int)):stripL (wds l)=wds l:=by
 induction l with
 | nil=>rfl
 | cons u l ih =>
  have:(wR u).strip=wR u:=by
   unfold wR;split
   ·rfl
   ·simp [HV.strip,HL.ints_strip]
  simp only [wds,List.map_cons,stripL,this] at ih ⊢
  rw [ih]
attribute [go_sem] List.length_map
end Go.Proofs.Ytlbdmpjnmfmnfaa
end
section
set_option linter.unusedSimpArgs false
set_option linter.unusedVariables false
namespace Go.Proofs.Ytlbdmpjnmfmnfaa
open Go.RowKit Go.HL Go.FS
theorem vk {fin:List Bool} {al:List A} {w:List Int} {most:Int} (h:(mY fin al w most).2=0) {v:List Int}:v∈(mY fin al w most).1 <-> Out fin al w v:=by
 obtain ⟨h1,h2⟩:=Kr h
 exact h2.mem (sS h1.1)
end Go.Proofs.Ytlbdmpjnmfmnfaa
end
