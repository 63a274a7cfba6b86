import Derived.Test.YtlbdmpjnmfmnfaaFt2
section
set_option linter.unusedSimpArgs false
set_option linter.unusedVariables false
namespace Go.Proofs.Ytlbdmpjnmfmnfaa
open Go.RowKit Go.HL
def vw (l:List Int):List Value:=l.map fun n=>.int .i64 n
theorem BN {F:Nat->Prop} {h:Hp} {R:HV->Value->Prop} (l:List Int):OW F h R (HL.ints l) (vw l) []:=by
 induction l with
 | nil=>exact .nil
 | cons x r ih=>exact .int ih
theorem zU {w:World} {a:Option Addr} {len cap:Nat} {zs:List Int} (h:(a=none/\len=0/\cap=0/\zs=[]) \/
  ∃x,a=some x/\len<=cap/\cap<=maxLen/\zs.length=cap/\(∀i,i<zs.length->w.cell? (x.add i)=some (.int .i64 (zs.getD i 0)))/\∀n∈zs,(Lit.int .i64 n).wf=true) :
  OW (fun b=>b<w.heap.size) w.heap dM [I (zs.take len)] [.slice a len cap] []/\(zs.take len).length=len/\len<=9223372036854775807:=by
 have hl:(zs.take len).length=len:=by
  rcases h with ⟨_,rfl,_,rfl⟩|⟨x,_,h1,_,h3,_⟩
  ·rfl
  ·simp;omega
 have hm:len<=9223372036854775807:=by
  rcases h with ⟨_,rfl,_,rfl⟩|⟨x,_,h1,h2,_⟩
  ·omega
  ·unfold maxLen at h2;omega
 refine ⟨?_,hl,hm⟩
 unfold I
 rw [hl]
 rcases Nat.eq_zero_or_pos len with rfl|hp
 ·exact .sl0 .nil
 ·rcases h with ⟨_,h0,_⟩|⟨x,rfl,h1,h2,h3,h4,-⟩
  ·omega
  ·have h0:=h4 0 (by omega)
   obtain ⟨g,off,spot⟩:=x
   obtain ⟨cur,e,fr,hg,hs⟩:∃cur e fr,w.heap[g]?=some (.cells cur e fr)/\spot=none:=by
    simp only [Addr.add,if_true,World.cell?] at h0
    split at h0
    ·rename_i cur e fr hg
     split at h0
     ·cases h0
     ·rename_i hn;exact ⟨_,_,_,hg,by simpa using hn⟩
    ·cases h0
   subst hs
   have hcell:∀k,k<len->cur[off+k]?=some (.int .i64 (zs.getD k 0)):=by
    intro k hk
    have h5:=h4 k (by omega)
    have e1:(⟨g,off,none⟩:Addr).add k=⟨g,off+k,none⟩:=by
     unfold Addr.add;split
     ·rename_i h;subst h;rfl
     ·rfl
    rw [e1] at h5
    simpa only [World.cell?,hg,Option.isSome_none,Bool.false_eq_true,if_false] using h5
   have hrv:vw (zs.take len)=(cur.toList.drop off).take (HL.ints (zs.take len)).length:=by
    rw [HL.ints_len,hl]
    apply List.ext_getElem?
    intro k
    by_cases hk:k<len
    ·rw [List.getElem?_take,if_pos hk,List.getElem?_drop]
     have:=hcell k hk
     rw [show cur.toList[off+k]?=cur[off+k]? from by simp,this]
     rw [vw,List.getElem?_map,List.getElem?_take,if_pos hk,List.getElem?_eq_getElem (by omega)]
     simp [List.getD_eq_getElem?_getD,List.getElem?_eq_getElem (show k<zs.length by omega)]
    ·rw [List.getElem?_eq_none (by simp [vw];omega),List.getElem?_eq_none (by simp;omega)]
   exact .sl (F:=fun b=>b<w.heap.size) (Array.getElem?_eq_some_iff.1 hg).1 hg hrv h1 (BN _) .nil
theorem said_of {P:Program} {f:FuncId} {args:List HV} {rargs:List Value} {w:World} (h:HT P f args (fun r=>r=.bool true)) (ho:OW (fun b=>b<w.heap.size) w.heap dM args rargs []) :
  Calls P f rargs.toArray w fun e w'=>e=.returned (.bool true)/\Below w.heap.size w w':=by
 refine (h.2 w rargs _ (fun b hb=>hb) ho).mono ?_
 rintro e w' ⟨rv,res,fs,rfl,rfl,h1,_,_,hb⟩
 rw [of_bool h1]
 exact ⟨rfl,hb⟩
theorem vU {F:Nat->Prop} {h:Hp} {v:HV} {r:List HV} {rv:Value} {rr:List Value} (h1:OW F h dM [v] [rv] []) (h2:OW F h dM r rr []):OW F h dM (v::r) (rv::rr) []:=h1.cons1 h2
end Go.Proofs.Ytlbdmpjnmfmnfaa
end
section
set_option linter.unusedSimpArgs false
set_option linter.unusedVariables false
namespace Go.Proofs.Ytlbdmpjnmfmnfaa
open Go.RowKit Go.HL
theorem NJ {n:Int} (h:(Lit.int .i64 n).wf=true) : -9223372036854775808<=n/\n<=9223372036854775807:=by
 simp only [Lit.wf,Bool.and_eq_true,decide_eq_true_eq] at h
 have e1:IntKind.i64.min = -9223372036854775808:=rfl
 have e2:IntKind.i64.max=9223372036854775807:=rfl
 rw [e1,e2] at h
 exact h
theorem zl {w:World} {a:Option Addr} {len cap:Nat} {zs:List Int} (h:(a=none/\len=0/\cap=0/\zs=[]) \/
  ∃x,a=some x/\len<=cap/\cap<=maxLen/\zs.length=cap/\(∀i,i<zs.length->w.cell? (x.add i)=some (.int .i64 (zs.getD i 0)))/\∀n∈zs,(Lit.int .i64 n).wf=true) :
  ∀k,k<(zs.take len).length -> -9223372036854775808<=(zs.take len).getD k 0/\(zs.take len).getD k 0<=9223372036854775807:=by
 intro k hk
 have hm:(zs.take len).getD k 0∈zs:=by
  rw [List.getD_eq_getElem?_getD,List.getElem?_eq_getElem hk,Option.getD_some]
  exact List.mem_of_mem_take (List.getElem_mem hk)
 rcases h with ⟨_,_,_,rfl⟩|⟨x,_,_,_,_,_,h⟩
 ·cases hm
 ·exact NJ (h _ hm)
end Go.Proofs.Ytlbdmpjnmfmnfaa
end
