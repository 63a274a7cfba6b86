import Derived.Test.YtjlidhijnohkbaaHb
set_option linter.unusedSimpArgs false
set_option linter.unusedVariables false
section
namespace Go.Proofs.Ytjlidhijnohkbaa
open Go.RowKit Go.HL
def yH (l:List Int):List Value:=l.map fun n=>.int .i64 n
theorem Fg {F:Nat->Prop} {h:Hp} {R:HV->Value->Prop} (l:List Int):OW F h R (HL.ints l) (yH l) []:=by
 induction l with
 | nil=>exact .nil
 | cons x r ih=>exact .int ih
theorem PH {w:World} {a:Option Addr} {len cap:Nat} {zs:List Int} (h:(a=none/\len=0/\cap=0/\zs=[]) \/
  ∃x,a=some x/\len<=cap/\cap<=maxLen/\zs.length=cap/\(∀i,i<zs.length->w.cell? (x.add i)=some (.int .i64 (zs.getD i 0)))/\∀n∈zs,(Lit.int .i64 n).wf=true) :
  OW (fun b=>b<w.heap.size) w.heap dA [I (zs.take len)] [.slice a len cap] []/\(zs.take len).length=len/\len<=9223372036854775807:=by
 have hl:(zs.take len).length=len:=by
  rcases h with ⟨_,rfl,_,rfl⟩|⟨x,_,h1,_,h3,_⟩
  ·rfl
  ·simp;omega
 have hm:len<=9223372036854775807:=by
  rcases h with ⟨_,rfl,_,rfl⟩|⟨x,_,h1,h2,_⟩
  ·omega
  ·unfold maxLen at h2;omega
 refine ⟨?_,hl,hm⟩
 unfold I
 rw [hl]
 rcases Nat.eq_zero_or_pos len with rfl|hp
 ·exact .sl0 .nil
 ·rcases h with ⟨_,h0,_⟩|⟨x,rfl,h1,h2,h3,h4,-⟩
  ·omega
  ·have h0:=h4 0 (by omega)
   obtain ⟨g,off,spot⟩:=x
   obtain ⟨cur,e,fr,hg,hs⟩:∃cur e fr,w.heap[g]?=some (.cells cur e fr)/\spot=none:=by
    simp only [Addr.add,if_true,World.cell?] at h0
    split at h0
    ·rename_i cur e fr hg
     split at h0
     ·cases h0
     ·rename_i hn;exact ⟨_,_,_,hg,by simpa using hn⟩
    ·cases h0
   subst hs
   have hcell:∀k,k<len->cur[off+k]?=some (.int .i64 (zs.getD k 0)):=by
    intro k hk
    have h5:=h4 k (by omega)
    have e1:(⟨g,off,none⟩:Addr).add k=⟨g,off+k,none⟩:=by
     unfold Addr.add;split
     ·rename_i h;subst h;rfl
     ·rfl
    rw [e1] at h5
    simpa only [World.cell?,hg,Option.isSome_none,Bool.false_eq_true,if_false] using h5
   have hrv:yH (zs.take len)=(cur.toList.drop off).take (HL.ints (zs.take len)).length:=by
    rw [HL.ints_len,hl]
    apply o7
    intro k
    by_cases hk:k<len
    ·rw [oO,if_pos hk,xH]
     have:=hcell k hk
     rw [show cur.toList[off+k]?=cur[off+k]? from by simp,this]
     rw [yH,iT,oO,if_pos hk,dS (by omega)]
     simp [dW,dS (show k<zs.length by omega)]
    ·rw [jb (by simp [yH];omega),jb (by simp;omega)]
   exact .sl (F:=fun b=>b<w.heap.size) (zl022.1 hg).1 hg hrv h1 (Fg _) .nil
theorem said_of {P:Program} {f:FuncId} {args:List HV} {rargs:List Value} {w:World} (h:HT P f args (fun r=>r=.bool true)) (ho:OW (fun b=>b<w.heap.size) w.heap dA args rargs []) :
  Calls P f rargs.toArray w fun e w'=>e=.returned (.bool true)/\Below w.heap.size w w':=by
 refine (h.2 w rargs _ (fun b hb=>hb) ho).mono ?_
 rintro e w' ⟨rv,res,fs,rfl,rfl,h1,_,_,hb⟩
 rw [of_bool h1]
 exact ⟨rfl,hb⟩
theorem Nc {F:Nat->Prop} {h:Hp} {v:HV} {r:List HV} {rv:Value} {rr:List Value} (h1:OW F h dA [v] [rv] []) (h2:OW F h dA r rr []):OW F h dA (v::r) (rv::rr) []:=h1.cons1 h2
theorem Om {F:Nat->Prop} {h:Hp} {r:List HV} {rr:List Value} {k:IntKind} {n:Int} (h2:OW F h dA r rr []):OW F h dA (.int k n::r) (.int k n::rr) []:=.int h2
end Go.Proofs.Ytjlidhijnohkbaa
end
