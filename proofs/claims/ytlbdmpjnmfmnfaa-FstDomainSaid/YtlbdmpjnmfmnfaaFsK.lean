import Derived.Test.YtlbdmpjnmfmnfaaFsI
import Derived.Test.YtlbdmpjnmfmnfaaHlW
import Derived.Test.YtlbdmpjnmfmnfaaFsV
import Derived.Test.YtlbdmpjnmfmnfaaFsE
set_option linter.unusedSimpArgs false
set_option linter.unusedVariables false
set_option maxHeartbeats 16000000
section
namespace Go.Proofs.Ytlbdmpjnmfmnfaa
open Go.RowKit Go.HL Go.FS
theorem TC (fin:List Bool) (al:List A) (w:List Int) (G S:List Nd) (u:List Int) (W:HV) (hW:(W=.nils/\u=[])\/(W=.sl u.length (HL.ints u)/\0<u.length)) (hv:okF fin al=true) (hw:w.length<=1024) (hG:∀x,x∈G <-> FS.Good fin al w x) (hGl:G.length<=4194304) (hS:∀x,x∈S <-> FS.At fin al w u x) (hSl:S.length<=8388608) (hu:u.length<=8388608) :
  HT Try.prog 58 [.ptr (runT w (aT (·.f) fin.length al) G) 0,.agg [W,.sl S.length (BP S)]] (fun r=>∃rows,r=.osl 2 rows.length (recs mF rows)/\rows.map (·.1)=ext fin al w u/\∀q∈rows,Row fin al w G.length q):=by
 obtain ⟨h1,h2,h3⟩:=lF hv
 have hk:Eh al:=fun a ha=>by have:=gu hv ha;omega
 have hSg:∀x∈S,FS.Good fin al w x:=fun x hx=>((hS x).1 hx).good
 have hSi:∀x∈S,U8 fin.length w x:=fun x hx=>Df (fun a ha=>by have:=gu hv ha;omega) (hSg x hx)
 have hwide:=fun T=>JR fin al w G T hv hw hG hGl
 have hWf:bC [W,.sl S.length (BP S)]=true:=by rcases hW with ⟨rfl,_⟩|⟨rfl,_⟩<;>rfl
 have hfl:=iw (·.f) fin.length al
 have hrf:∀i:Nat,i<fin.length->(aT (·.f) fin.length al).getD i []=al.filter fun a=>a.f==(i:Int):=fun i hi=>nH _ _ hi
 generalize hLF:aT (·.f) fin.length al=LF at hfl hrf hwide
 refine HT.of rfl aeI (bF rfl) ?_
 unfold c58
 simp only [ay,Nat.reduceAdd,runT]
 refine aU ?_
 refine bg ?_
 refine oz (fr:=0) (by rfl) (eA rfl) rfl hWf rfl ?_
 refine zF ⟨?_⟩
 refine aF [0,3,5,18,19,20] (fun s:Nat×List Int×(Int->List Nd)=>s.1<=S.length/\LN fin al w S s.1 s.2.1 s.2.2)
  (fun s=>⟨[(0,.ptr [.sl w.length (HL.ints w),.sl LF.length (dH LF),.rmap ⟨.ints 2,none⟩ (G.map pk) (qh G.length)] 0),(3,.pref 0 [] 0),(5,.mref 1 []),(18,.sl S.length (recs pC S)),(19,.int .i64 S.length),(20,.int .i64 s.1)],[(0,.optr [W,.sl S.length (BP S)]),(1,.omap ⟨.int .i64,none⟩ (wM s.2.1) (uy s.2.1 s.2.2 fun _=>none))],2⟩)
  (fun s=>S.length - s.1) (0,[],fun _=>[]) ⟨by simp,.start⟩ rfl ?_
 rintro ⟨i,ks,V⟩ ⟨hk1,hln⟩
 simp only at hk1 hln ⊢
 by_cases hi:i<S.length
 ·have hvm:S.getD i default∈S:=by rw [bf,bn hi];exact iD _
  obtain ⟨g1,g2,g3,g4⟩:=hSi _ hvm
  have hrow:=hrf (S.getD i default).1.toNat (by omega)
  rw [show (((S.getD i default).1.toNat:Nat):Int)=(S.getD i default).1 by omega] at hrow
  have hrl:(LF.getD (S.getD i default).1.toNat []).length<=al.length:=by rw [hrow];exact List.length_filter_le _ _
  have hlj:=hln.begin (G:=G) (v:=S.getD i default) (R:=LF.getD (S.getD i default).1.toNat [])
  refine zF ⟨?_⟩
  refine bJ aA aA (fun _ _ _=>False) ?_
  refine zF ⟨?_⟩
  generalize hR:LF.getD (S.getD i default).1.toNat []=R at hrow hrl hlj
  refine aF [0,3,5,7,18,19,20,31,32,33] (fun s:Nat×List Int×(Int->List Nd)=>s.1<=R.length/\LJ fin al w G S i (S.getD i default) R s.1 s.2.1 s.2.2)
   (fun s=>⟨[(0,.ptr [.sl w.length (HL.ints w),.sl LF.length (dH LF),.rmap ⟨.ints 2,none⟩ (G.map pk) (qh G.length)] 0),(3,.pref 0 [] 0),(5,.mref 1 []),(7,.pref 2 [] 0),(18,.sl S.length (recs pC S)),(19,.int .i64 S.length),(20,.int .i64 i),(31,.sl R.length (recs aC R)),(32,.int .i64 R.length),(33,.int .i64 s.1)],[(0,.optr [W,.sl S.length (BP S)]),(1,.omap ⟨.int .i64,none⟩ (wM s.2.1) (uy s.2.1 s.2.2 fun _=>none)),(2,.optr [.int .i64 (S.getD i default).1,.int .i64 (S.getD i default).2])],3⟩)
   (fun s=>R.length - s.1) (0,ks,V) ⟨by simp,hlj⟩ rfl ?_
  rintro ⟨k,ks,V⟩ ⟨hkk,hlj⟩
  simp only at hkk hlj ⊢
  by_cases hkl:k<R.length
  ·have hnx:=Q9 w LF G (R.getD k default) (S.getD i default).2 g3 hw g4
   have hsk:=hlj.skip hkl
   have had:=fun y=>hlj.add hG hrow g3 hvm hkl (y:=y)
   obtain ⟨y,b,hy⟩:∃y b,kQ w G (R.getD k default) (S.getD i default).2=(y,b):=⟨_,_,rfl⟩
   rw [hy] at hnx hsk had
   simp only [runT,aC] at hnx
   obtain ⟨y1,y2⟩:=y
   refine zF ⟨?_⟩
   refine aX aG bz (hnx) ?_
   rintro _ rfl
   simp only [pT,pC]
   refine zG ⟨?_⟩
   cases b with
   | false =>
    refine zF ⟨?_⟩
    exact aV [0,3,5,7,18,19,20,31,32,33] (k+1,ks,V) ⟨hkl,hsk (fun _ _ h=>by simp at h)⟩ iQ rfl
   | true =>
    by_cases ho:(R.getD k default).o = -1
    ·refine zF ⟨?_⟩
     exact aV [0,3,5,7,18,19,20,31,32,33] (k+1,ks,V) ⟨hkl,hsk (fun h=>absurd ho h)⟩ iQ rfl
    ·have had':=had (y1,y2) ho rfl
     by_cases hs:(R.getD k default).o∈ks
     ·have hml:=Hm (ks:=ks) (V:=V) (p:=fun _=>none) 1 hs
      have hins:ins (R.getD k default).o ks=ks:=by unfold ins;rw [if_pos hs]
      rw [hins] at had'
      refine fP @hml ⟨?_⟩
      refine lu (by rfl) (by rfl) (zx hs _) ?_
      refine fP @hml ⟨?_⟩
      have hng:=zx (ks:=ks) (V:=V) (p:=fun _=>none) hs ⟨.int .i64,none⟩
      have hpt:=DN (V (R.getD k default).o) (.ints 2) y1 y2
      have hst:=Ji (V:=V) (y:=(y1,y2)) hs hlj.ln.nd ⟨.int .i64,none⟩
      refine jY (by rfl) af af gU (by trivial) gU (hng) ⟨rfl,rfl⟩ (hpt) (hst) iL ?_
      refine zF ⟨?_⟩
      exact aV [0,3,5,7,18,19,20,31,32,33] (k+1,ks,XR V (R.getD k default).o (y1,y2)) ⟨hkl,had'⟩ iQ rfl
     ·have hml:=IE (ks:=ks) (V:=V) (p:=fun _=>none) 1 hs
      have hVn:V (R.getD k default).o=[]:=Sm fun h=>hs ((hlj.ln.out _).1 h)
      have hnew:=Ze hs hVn
      have hs':(R.getD k default).o∈ks++[(R.getD k default).o]:=by simp
      have hml2:=Hm (ks:=ks++[(R.getD k default).o]) (V:=V) (p:=fun _=>none) 1 hs'
      have hins:ins (R.getD k default).o ks=ks++[(R.getD k default).o]:=by unfold ins;rw [if_neg hs]
      rw [hins] at had'
      refine fP (zA @hml (zA @hml2 @hnew)) ⟨?_⟩
      have hng:=zx (ks:=ks++[(R.getD k default).o]) (V:=V) (p:=fun _=>none) hs' ⟨.int .i64,none⟩
      have hpt:=DN (V (R.getD k default).o) (.ints 2) y1 y2
      have hst:=Ji (V:=V) (y:=(y1,y2)) hs' had'.ln.nd ⟨.int .i64,none⟩
      refine jY (by rfl) af af gU (by trivial) gU (hng) ⟨rfl,rfl⟩ (hpt) (hst) iL ?_
      refine zF ⟨?_⟩
      exact aV [0,3,5,7,18,19,20,31,32,33] (k+1,ks++[(R.getD k default).o],XR V (R.getD k default).o (y1,y2)) ⟨hkl,had'⟩ iQ rfl
  ·obtain rfl:k=R.length:=by omega
   have hd:=hlj.done hG hrow g3
   refine zF ⟨?_⟩
   exact aV [0,3,5,18,19,20] (i+1,ks,V) ⟨hi,hd⟩ iQ rfl
 ·obtain rfl:i=S.length:=by omega
  refine zF ⟨?_⟩
  refine qj (Weak.norm2 [0,3,5,12,67] _) ?_
  exact NH fin al w G S u W LF hLF hW hv hw hG hGl hS hu ks V hln
section
variable {fin:List Bool} {al:List A} {w:List Int} {G:List Nd} {most:Int}
def DJ (fin:List Bool) (w:List Int) (x:Nd):Bool:=decide (x.2=w.length)&&fin.getD x.1.toNat false
theorem Zv {u:List Int} {S:List Nd} (hS:∀x,x∈S <-> FS.At fin al w u x) (hin:∀x∈S,U8 fin.length w x):Out fin al w u <-> S.any (DJ fin w)=true:=by
 simp only [zl083,DJ,aZ,decide_eq_true_eq]
 constructor
 ·rintro ⟨p,hp,hf⟩
  exact ⟨_,(hS _).2 hp,rfl,hf.2⟩
 ·rintro ⟨x,hx,h1,h2⟩
  refine ⟨x.1,?_,(hin x hx).1,h2⟩
  rw [<- h1]
  exact (hS x).1 hx
structure AR (fin:List Bool) (al:List A) (w:List Int) (m:Nat) (d:Nat) (lv:List (List Int×List Nd)) (k:Nat) (wds:List (List Int)) (nxt:List (List Int×List Nd)):Prop where
 lvl:lv.map (·.1)=sH fin al w d
 row:∀q∈lv,Row fin al w m q
 wd:wds=upto fin al w d++outs fin al w ((sH fin al w d).take k)
 nx:nxt.map (·.1)=((sH fin al w d).take k).flatMap (ext fin al w)
 nrow:∀q∈nxt,Row fin al w m q
theorem AR.start {m d:Nat} {lv:List (List Int×List Nd)} (h1:lv.map (·.1)=sH fin al w d) (h2:∀q∈lv,Row fin al w m q):AR fin al w m d lv 0 (upto fin al w d) [] :=
 ⟨h1,h2,by simp [outs],by simp,by simp⟩
theorem AR.len {m d k:Nat} {lv nxt:List (List Int×List Nd)} {wds:List (List Int)} (h:AR fin al w m d lv k wds nxt):(sH fin al w d).length=lv.length:=by rw [<- h.lvl,List.length_map]
open Classical in
theorem AR.step {m d k:Nat} {lv nxt rows:List (List Int×List Nd)} {wds wds':List (List Int)} (h:AR fin al w m d lv k wds nxt) (hk:k<lv.length) (h1:rows.map (·.1)=ext fin al w (lv.getD k default).1) (h2:∀q∈rows,Row fin al w m q) (h3:wds'=if Out fin al w (lv.getD k default).1 then wds++[(lv.getD k default).1] else wds):AR fin al w m d lv (k+1) wds' (nxt++rows):=by
 have hl:=h.len
 have hg:(sH fin al w d).getD k default=(lv.getD k default).1:=by
  rw [<- h.lvl]
  simp only [bf,fZ,bn hk]
  rfl
 have ht:=bY (l:=sH fin al w d) (k:=k) (by omega)
 rw [hg] at ht
 refine ⟨h.lvl,h.row,?_,?_,fun q hq=>?_⟩
 ·rw [h3,h.wd,ht]
  unfold outs
  rw [ER]
  by_cases ho:Out fin al w (lv.getD k default).1
  ·rw [if_pos ho,tZ];congr 2;rw [List.filter_cons_of_pos (by simpa using ho)];rfl
  ·rw [if_neg ho,List.filter_cons_of_neg (by simpa using ho)];simp
 ·rw [oW,h.nx,h1,ht,IR];simp
 ·rcases zl002.1 hq with hq|hq
  ·exact h.nrow q hq
  ·exact h2 q hq
theorem AR.done {m d k:Nat} {lv nxt:List (List Int×List Nd)} {wds:List (List Int)} (h:AR fin al w m d lv k wds nxt) (hk:lv.length<=k):wds=upto fin al w (d+1)/\nxt.map (·.1)=sH fin al w (d+1):=by
 have e:(sH fin al w d).take k=sH fin al w d:=kC (by rw [h.len];exact hk)
 refine ⟨by rw [h.wd,e];rfl,by rw [h.nx,e];rfl⟩
theorem AR.mst (hk:Eh al) {m d k:Nat} {lv nxt:List (List Int×List Nd)} {wds:List (List Int)} (h:AR fin al w m d lv k wds nxt) {l:List (List Int)} (hl:Lst fin al w most l):(wds.length:Int)<=most/\(nxt.length:Int)<=most:=by
 have e:sH fin al w d=(sH fin al w d).take k++(sH fin al w d).drop k:=(zg k _).symm
 constructor
 ·have h1:=Yl hk (d:=d+1) hl
  have:wds.length<=(upto fin al w (d+1)).length:=by
   rw [h.wd]
   simp only [upto,outs,dQ]
   rw [e,ER]
   simp only [dQ,zg]
   omega
  omega
 ·have h1:=aaZ hk (d:=d+1) hl
  have:nxt.length<=(sH fin al w (d+1)).length:=by
   rw [<- List.length_map (f:=(·.1)),h.nx]
   show _<=((sH fin al w d).flatMap (ext fin al w)).length
   rw [e,IR]
   simp only [dQ,zg]
   omega
  omega
theorem ZT (hk:Eh al) (hG:∀x,x∈G <-> FS.Good fin al w x) {m d:Nat} {lv:List (List Int×List Nd)} (h1:lv.map (·.1)=sH fin al w d) (hn:0<lv.length) (hd:G.length<d) (l:List (List Int)):¬ Lst fin al w most l :=
 QL hk (fun x hx=>(hG x).2 hx) hd (fun h=>by rw [h] at h1;simp at h1;subst h1;simp at hn)
theorem aab {d:Nat} (h1:sH fin al w d=[]) (h2:((upto fin al w d).length:Int)<=most):Lst fin al w most (upto fin al w d):=⟨d,h1,rfl,h2⟩
theorem aer (hG:∀x,x∈G <-> FS.Good fin al w x):sH fin al w 0=if (((0,0):Nd)∈G) then [[]] else []:=by
 have:Beg fin al w [] <-> ((0,0):Nd)∈G:=by
  rw [hG]
  constructor
  ·rintro ⟨y,hy⟩
   rw [at_nil] at hy
   induction hy with
   | on h=>exact h.2
   | eps _ _ _ ih=>exact ih
  ·intro h;exact ⟨_,.nil h⟩
 unfold sH
 by_cases h:((0,0):Nd)∈G
 ·rw [if_pos h,if_pos (this.2 h)]
 ·rw [if_neg h,if_neg (fun h2=>h (this.1 h2))]
theorem row0 (hG:∀x,x∈G <-> FS.Good fin al w x) (h:((0,0):Nd)∈G) {L:List Nd} (hL:∀x,x∈L <-> Cl fin al w (·∈[((0,0):Nd)]) x) (hl:L.length<=1+G.length):Row fin al w G.length ([],L):=by
 have hg:=(hG _).1 h
 refine ⟨fun x=>?_,by have:=List.length_pos_of_mem h;simp only;omega⟩
 rw [hL,at_nil]
 have e:(fun x=>x∈[((0,0):Nd)])=fun x=>x=(0,0)/\FS.Good fin al w (0,0):=by
  funext x;simp [hg]
 rw [e]
theorem Wn (hk:Eh al) {d:Nat} {v:List Int} (h:v∈sH fin al w d):v.length=d:=((oK hk).1 h).2
end
theorem Ya (fin:List Bool) (al:List A) (w:List Int) (x:Nd) (h0:0<=x.1) (h1:x.1<fin.length) (hw:w.length<=1024):HT Try.prog 57 [.agg [.int .i64 x.1,.int .i64 x.2],.ptr [.sl w.length (HL.ints w)] 0,.ptr (dR fin al) 0] (fun r=>r=.bool (DJ fin w x)):=by
 refine HT.of rfl aex (bF rfl) ?_
 unfold c57
 simp only [ay,Nat.reduceAdd,dR,fU]
 by_cases h:x.2=w.length
 ·refine zF ⟨?_⟩
  refine ae ?_
  simp [bG,DJ,h]
 ·refine zF ⟨?_⟩
  refine ae ?_
  simp [bG,DJ,h]
theorem Vu (fin:List Bool) (al:List A) (w:List Int) (l:List Nd) (hin:∀x∈l,U8 fin.length w x) (hw:w.length<=1024) (hl:l.length<=100000000):HT Try.prog 100 [.sl l.length (BP l),.fn 57 [.ptr [.sl w.length (HL.ints w)] 0,.ptr (dR fin al) 0]] (fun r=>∃z:Int,r=.int .i64 z/\(0<=z <-> l.any (DJ fin w)=true)):=by
 refine HT.of rfl adO (bF rfl) ?_
 unfold ad3
 simp only [ay,Nat.reduceAdd]
 refine zF ⟨?_⟩
 refine aF [0,1,7,8] (fun k:Nat=>k<=l.length/\(l.take k).any (DJ fin w)=false)
  (fun k=>⟨[(0,.sl l.length (BP l)),(1,.fn 57 [.ptr [.sl w.length (HL.ints w)] 0,.ptr (dR fin al) 0]),(7,.int .i64 l.length),(8,.int .i64 k)],[],0⟩)
  (fun k=>l.length - k) 0 ⟨by omega,by simp⟩ rfl ?_
 rintro k ⟨hk,hno⟩
 by_cases hkl:k<l.length
 ·have hm:l.getD k default∈l:=by rw [bf,bn hkl];exact iD _
  obtain ⟨g1,g2,_,_⟩:=hin _ hm
  have htk:=bY hkl
  refine zF ⟨?_⟩
  refine uH (by rfl) aG bz (Ya fin al w (l.getD k default) g1 g2 hw) ?_
  rintro _ rfl
  cases hp:DJ fin w (l.getD k default)
  ·refine zG ⟨?_⟩
   refine zF ⟨?_⟩
   exact aV [0,1,7,8] (k+1) ⟨hkl,by rw [htk,Je,hno];simp only [List.any_cons,List.any_nil,hp];rfl⟩ (by omega) rfl
  ·refine zG ⟨?_⟩
   refine zF ⟨?_⟩
   refine ae ?_
   exact ⟨_,rfl,fun _=>zl083.2 ⟨_,hm,hp⟩,fun _=>by omega⟩
 ·obtain rfl:k=l.length:=by omega
  rw [ig] at hno
  refine zF ⟨?_⟩
  refine ae ?_
  exact ⟨_,rfl,fun h=>absurd h (by decide),fun h=>by rw [hno] at h;cases h⟩
theorem TV (fin:List Bool) (al:List A) (w:List Int) (l:List Nd) (hin:∀x∈l,U8 fin.length w x) (hw:w.length<=1024) (hl:l.length<=100000000):HT Try.prog 56 [.sl l.length (BP l),.fn 57 [.ptr [.sl w.length (HL.ints w)] 0,.ptr (dR fin al) 0]] (fun r=>r=.bool (l.any (DJ fin w))):=by
 refine HT.of rfl aec (bF rfl) ?_
 unfold c56
 simp only [ay,Nat.reduceAdd]
 refine zF ⟨?_⟩
 refine aX aG bz (Vu fin al w l hin hw hl) ?_
 rintro _ ⟨z,rfl,hz⟩
 refine zG ⟨?_⟩
 by_cases h0:0<=z
 ·refine zF ⟨?_⟩
  refine ae ?_
  simp [bG,hz.1 h0,h0]
 ·have:l.any (DJ fin w)=false:=by
   cases h:l.any (DJ fin w)
   ·rfl
   ·exact absurd (hz.2 h) h0
  rw [this]
  refine zF ⟨?_⟩
  refine ae ?_
  simp [bG,h0]
end Go.Proofs.Ytlbdmpjnmfmnfaa
end
