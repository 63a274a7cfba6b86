import Derived.Test.YtjlidhijnohkbaaCodesGroundPaths
import Derived.Test.YtjlidhijnohkbaaGpQ
import Derived.Test.YtjlidhijnohkbaaHlRo
import Derived.Test.YtjlidhijnohkbaaHlW
set_option linter.unusedSimpArgs false
set_option linter.unusedVariables false
set_option maxHeartbeats 8000000
namespace Go.Proofs.Ytjlidhijnohkbaa
open Go.RowKit Go.HL Go.BF
theorem Qr {kk:List HI} {rs:List Nat} {Kp:HV->Prop} {xc:HCode} [hp:Plain kk] (G:List (List Nat)) (bad:List Bool) (g:Gr G bad) (i:Nat) (hi:i<=G.length)
  (h:hx Try.prog (.c xc::kk) (finish rs Kp) ⟨[(6,.sl G.length (HL.bools bad)),(7,.sl G.length (aO (G.map nl))),(12,.pref 0 [] 0),(13,.int .i64 (i:Nat)),(14,.ref 1 [] 1 0 4)],[(0,.optr [.int .i64 4,.osl 1 i (dR (wo G bad i)),.osl 1 i (HL.bools (xY G bad i))]),(1,.osl 1 4 (HL.ints (nl (NW G bad i))))],2⟩):hx Try.prog (.c (.loop NC)::.b 6::.c xc::kk) (finish rs Kp) ⟨[(6,.sl G.length (HL.bools bad)),(7,.sl G.length (aO (G.map nl))),(12,.pref 0 [] 0),(13,.int .i64 (i:Nat)),(14,.ref 1 [] 1 0 4),(15,.int .i64 (0:Nat))],[(0,.optr [.int .i64 4,.osl 1 i (dR (wo G bad i)),.osl 1 i (HL.bools (xY G bad i))]),(1,.osl 1 4 (HL.ints (nl (Jd G bad i 0))))],2⟩:=by
 have hsz:=g.size
 have hbl:=g.bads
 have hnl:(G.map nl).length=G.length:=by simp
 refine aQ [6,7,12,13,14,15] (fun k:Nat=>k<=4) (fun k=>⟨[(6,.sl G.length (HL.bools bad)),(7,.sl G.length (aO (G.map nl))),(12,.pref 0 [] 0),(13,.int .i64 (i:Nat)),(14,.ref 1 [] 1 0 4),(15,.int .i64 (k:Nat))],[(0,.optr [.int .i64 4,.osl 1 i (dR (wo G bad i)),.osl 1 i (HL.bools (xY G bad i))]),(1,.osl 1 4 (HL.ints (nl (Jd G bad i k))))],2⟩) (fun k=>4 - k) 0 (gX _) rfl ?_
 intro k hk
 have hend:=Oh (nd:=G) (bad:=bad) (i:=i) (k:=k)
 have hgl:=g.len i
 by_cases c1:i<G.length
 ·obtain ⟨row,hrow⟩:∃row,G.getD i []=row:=⟨_,rfl⟩
  have hset:=OL (nd:=G) (bad:=bad) (i:=i) (k:=k) c1
  rw [hrow] at hend hset hgl
  have hnr:=bH row
  by_cases c2:k<row.length
  ·by_cases c3:k<4
   ·cases c4:bad.getD i false with
    | false =>
     have hst:=hset c4 c2 c3
     have hsv:(HL.ints (nl (Jd G bad i k))).set k (.int .i64 (row.getD k 0:Nat))=HL.ints (nl (Jd G bad i (k+1))):=by rw [<- hst];simp [HL.ints,nl]
     have hln:(HL.ints (nl (Jd G bad i k))).length=4:=by simp [HL.ints,nl,Jd]
     generalize HL.ints (nl (Jd G bad i k))=cs at hsv hln ⊢
     refine kE (zA @aK (zA @hrow (zA @c4 (zA @hsv @hln)))) ⟨?_⟩
     refine bg [6,7,12,13,14,15] (k+1) (by omega) (by omega) rfl
    | true =>
     have he:=hend (fun hh=>by rw [c4] at hh;exact absurd hh.2.1 (by simp)) hk
     rw [he]
     refine kE (zA @aK (zA @hrow @c4)) ⟨?_⟩
     exact gI [6,7,12,13,14] _ rfl h
   ·have he:=hend (fun hh=>c3 hh.2.2.2) hk
    rw [he]
    refine kE (zA @aK @hrow) ⟨?_⟩
    exact gI [6,7,12,13,14] _ rfl h
  ·have he:=hend (fun hh=>c2 hh.2.2.1) hk
   rw [he]
   refine kE (zA @aK @hrow) ⟨?_⟩
   exact gI [6,7,12,13,14] _ rfl h
 ·have he:=hend (fun hh=>c1 hh.1) hk
  rw [he]
  refine zF ⟨?_⟩
  exact gI [6,7,12,13,14] _ rfl h
theorem QO {kk:List HI} {rs:List Nat} {Kp:HV->Prop} {xc:HCode} [hp:Plain kk] (G:List (List Nat)) (bad:List Bool) (g:Gr G bad) (i:Nat) (hi:i<=G.length)
  (h:hx Try.prog (.c xc::kk) (finish rs Kp) ⟨[(6,.sl G.length (HL.bools bad)),(7,.sl G.length (aO (G.map nl))),(12,.pref 0 [] 0),(13,.int .i64 (i:Nat))],[(0,.optr [.int .i64 4,.osl 1 (i+1) (dR (wo G bad (i+1))),.osl 1 (i+1) (HL.bools (xY G bad (i+1)))])],1⟩):hx Try.prog (.c Lm::.b 5::.c xc::kk) (finish rs Kp) ⟨[(6,.sl G.length (HL.bools bad)),(7,.sl G.length (aO (G.map nl))),(12,.pref 0 [] 0),(13,.int .i64 (i:Nat))],[(0,.optr [.int .i64 4,.osl 1 (i+1) (dR (wo G bad (i+1))),.osl 1 i (HL.bools (xY G bad i))])],1⟩:=by
 have hsz:=g.size
 have hbl:=g.bads
 have hap:=Me (nd:=G) (bad:=bad) i
 have hfl:=Dy (nd:=G) (bad:=bad) i
 have hwn:win (HL.bools (xY G bad i)) 0 i=HL.bools (xY G bad i):=kY _ (by rw [HL.bools_len,hfl])
 generalize xY G bad (i+1)=FF at hap h
 refine FV [6,7,13] [12] bM bM (fun _ _ _=>False) (by
  intro t ht
  simp only [zl008,yP,or_false] at ht
  rcases ht with rfl|rfl|rfl<;>simp [au,HV.deep,Fa,Gz]) (by simp [au,HV.deep]) ?_
 by_cases c1:i<G.length
 ·have e1:(HL.bools bad).getD i .dead=.bool (bad.getD i false):=by simp [HL.bools,show i<bad.length by omega]
  have hz:yB G bad i=bad.getD i false:=by simp [yB,c1]
  rw [hz] at hap
  generalize bad.getD i false=z at e1 hap
  refine kE (zA @e1 (zA @hwn (zA @HL.bools_snoc @hap))) ⟨?_⟩
  exact gI [6,7,12,13] _ rfl h
 ·have hz:yB G bad i=false:=by simp [yB,c1]
  rw [hz] at hap
  refine kE (zA @hwn (zA @HL.bools_snoc @hap)) ⟨?_⟩
  exact gI [6,7,12,13] _ rfl h
theorem Ox {kk:List HI} {rs:List Nat} {Kp:HV->Prop} {xc:HCode} [hp:Plain kk] (G:List (List Nat)) (bad:List Bool) (g:Gr G bad) (up:Up G) (h0:0<G.length) (w out:List Nat) (hacc:yB G bad (run (mJ G bad) 0 w)=true)
  (h:hx Try.prog (.c xc::kk) (finish rs Kp) ⟨[(7,.sl G.length (aO (G.map nl))),(16,.sl w.length (HL.ints (nl w))),(18,.ref 0 [] 1 0 out.length),(19,.ref 1 [] 1 0 (w.length+1))],[(0,.osl 1 out.length (HL.ints (nl out))),(1,.osl 1 (w.length+1) (HL.ints (nl (0::xG G bad 0 w))))],2⟩):hx Try.prog (.c (.loop NQ)::.b 8::.c xc::kk) (finish rs Kp) ⟨[(7,.sl G.length (aO (G.map nl))),(16,.sl w.length (HL.ints (nl w))),(18,.ref 0 [] 1 0 out.length),(19,.ref 1 [] 1 0 1),(20,.int .i64 (0:Nat))],[(0,.osl 1 out.length (HL.ints (nl out))),(1,.osl 1 1 (HL.ints (nl (0::xG G bad 0 (w.take 0)))))],2⟩:=by
 have hsz:=g.size
 have hat:=NG up w 0 h0 hacc
 have hwl:=yG up h0 hacc
 have hnl:(G.map nl).length=G.length:=by simp
 refine aQ [7,16,18,19,20] (fun k:Nat=>k<=w.length) (fun k=>⟨[(7,.sl G.length (aO (G.map nl))),(16,.sl w.length (HL.ints (nl w))),(18,.ref 0 [] 1 0 out.length),(19,.ref 1 [] 1 0 (k+1)),(20,.int .i64 (k:Nat))],[(0,.osl 1 out.length (HL.ints (nl out))),(1,.osl 1 (k+1) (HL.ints (nl (0::xG G bad 0 (w.take k)))))],2⟩) (fun k=>w.length - k) 0 (gX _) rfl ?_
 intro k hk
 obtain ⟨hv,hstep⟩:=hat k hk
 have hlast:=Gi (nd:=G) (bad:=bad) (w.take k) 0
 have hpl:(0::xG G bad 0 (w.take k)).length=k+1:=by rw [List.length_cons,Ef,gB];omega
 rw [show (w.take k).length=k by rw [gB];omega] at hlast
 by_cases hkl:k<w.length
 ·obtain ⟨hs1,hs2⟩:=hstep hkl
  have hsn:(0::xG G bad 0 (w.take k))++[mJ G bad (run (mJ G bad) 0 (w.take k)) (w.getD k 0)]=0::xG G bad 0 (w.take (k+1)):=by
   rw [List.take_add_one,dS hkl,dW,dS hkl]
   simp only [Option.toList_some,gV,Fz,List.cons_append]
  have ew:(HL.ints (nl w)).getD k .dead=.int .i64 (w.getD k 0:Nat):=by simp [HL.ints,nl,hkl]
  rw [hs2] at hsn
  obtain ⟨q,hq⟩:∃q,run (mJ G bad) 0 (w.take k)=q:=⟨_,rfl⟩
  rw [hq] at hv hs1 hsn hlast
  obtain ⟨row,hrow⟩:∃row,G.getD q []=row:=⟨_,rfl⟩
  rw [hrow] at hs1 hsn
  have hgl:=g.len q
  rw [hrow] at hgl
  have hnr:=bH row
  generalize w.getD k 0=s at hs1 hsn ew
  have er:(HL.ints (nl row)).getD s .dead=.int .i64 (row.getD s 0:Nat):=by simp [HL.ints,nl,hs1]
  generalize row.getD s 0=y at hsn er
  obtain ⟨pp,hpp⟩:∃pp,(0::xG G bad 0 (w.take (k+1)))=pp:=⟨_,rfl⟩
  rw [hpp] at hsn
  generalize (0::xG G bad 0 (w.take k))=p at hlast hpl hsn ⊢
  have ep:(HL.ints (nl p)).getD k .dead=.int .i64 (q:Nat):=by rw [<- hlast];simp [HL.ints,nl,show k<p.length by omega]
  have hap:HL.ints (nl p)++[.int .i64 (y:Nat)]=HL.ints (nl pp):=by rw [<- hsn];simp [HL.ints,nl]
  have hwr:win (HL.ints (nl p)) 0 (k+1)=HL.ints (nl p):=kY _ (by simp [HL.ints,nl,hpl])
  have hln:(HL.ints (nl p)).length=k+1:=by simp [HL.ints,nl,hpl]
  have ek:((k+1:Nat):Int) - 1=((k:Nat):Int):=by omega
  refine dC ?_
  refine dC ?_
  refine aW ?_
  refine zQ ⟨?_⟩
  refine dZ (by rfl) ?_
  refine dN ?_
  refine dC ?_
  refine dV ?_
  refine dC ?_
  refine aW ?_
  refine UU (zA @ek @ep) ⟨?_⟩
  refine dC ?_
  refine dC ?_
  refine iL bM bM (fun _ _ _=>False) ?_
  refine kE (zA @aK (zA @hrow @ew)) ⟨?_⟩
  refine iL bM bM (fun _ _ _=>False) ?_
  refine kE (zA @aK (zA @hrow (zA @ew (zA @er (zA @hwr @hap))))) ⟨?_⟩
  refine bg [7,16,18,19,20] (k+1) hkl (by omega) ?_
  rw [hpp]
  rfl
 ·obtain rfl:k=w.length:=by omega
  rw [lV]
  refine zF ⟨?_⟩
  exact gI [7,16,18,19] _ rfl h
end Go.Proofs.Ytjlidhijnohkbaa
