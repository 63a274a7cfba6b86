import Derived.Test.YteamkjblpglliaaCodesAbridgeSolves
import Derived.Test.YteamkjblpglliaaAbP
set_option linter.unusedSimpArgs false
set_option linter.unusedVariables false
namespace Go.Proofs.Yteamkjblpglliaa
open Go.RowKit Go.SL Go.HL
def lsD (n:Nat) (f22 f23:FuncId):FuncId->List HV->HV->Prop:=fun f xs r=>if f=f22 then Bj n f xs r else if f=f23 then r=.int .i64 0 else r=.bool true
theorem lsD_ov {n:Nat} {f22 f23:FuncId} {L:List Int} {X:List Bool} {r:HV}:lsD n f22 f23 f22 [.sl n (HL.ints L),.sl n (HL.bools X)] r <-> r=.int .i64 (wS L X n):=by
 unfold lsD;rw [if_pos rfl]
 exact ⟨dP,fun h=>⟨L,X,rfl,h⟩⟩
set_option maxHeartbeats 16000000 in
theorem AQ (l:List Int) (hl:l.length<=9223372036854775807) (hr:∀k,k < l.length -> -9223372036854775808<=l.getD k 0/\l.getD k 0<=9223372036854775807):HT Try.prog 4 [I l] (fun r=>r=.bool true):=by
 refine HT.of rfl fc4 (Nat.le_of_ble_eq_true rfl) ?_
 unfold c4
 simp only [I,aO,Nat.reduceAdd]
 repeat (first|refine ah ?_|refine ag ?_|refine ak ?_|refine ae ?_)
 refine bg aK dO (yf l hl hr) ?_
 rintro _ ⟨W,C,nd,B,h,hn9,rfl⟩
 have hsz:=h.g.size
 have hlw:=h.lw
 have hlc:=h.lc
 have hnl:(nd.map nl).length=nd.length:=by simp
 have hso:=nV h 1024 (by omega) (by omega)
 have hbe:=JE h hn9
 simp only [jX,I,Gs,hlw,hlc,hnl] at hso hbe ⊢
 refine ⟨dF,_,_,_,_,_,dA,(by decide),aQ,?_⟩
 repeat (first|refine ag ?_|refine ak ?_|refine ae ?_|refine bV ?_|refine dh ?_|refine gU gY ?_)
 refine bg aK dO (hso) ?_
 rintro _ ⟨s,b,rfl,hS⟩
 obtain rfl:b=true:=hS.enough (by omega) hn9
 unfold wP
 refine ⟨dF,_,_,_,_,_,dA,(by decide),aQ,?_⟩
 repeat (first|refine ah ?_|refine ag ?_|refine cu ?_|refine ak ?_|refine ae ?_|refine bV ?_|refine dh ?_|refine gU gY ?_)
 refine bg aK dO (hbe) ?_
 rintro _ ⟨S,rfl,hSel,hbest⟩
 obtain rfl:=hS.unique hSel hbest
 have hbl:=hS.sel.len
 have hss:=yx s.best s.best (by omega) (by omega)
 rw [decide_eq_true rfl] at hss
 have o1:=iR W s.best h.wok (by omega) (by omega)
 have o2:=iR C s.best h.cok (by omega) (by omega)
 have hck:=(Jy h (Fv W C nd.length s true) (by show s.best.length<=_;omega)).mono (K':=fun r=>r=.int .i64 0) (by
  rintro _ ⟨e,rfl,he⟩
  rw [hS.check h.g he])
 rw [EI hbl] at hck
 simp only [jX,wP,I,Bl,Gs,hlw,hlc,hnl,hbl] at hss o1 o2 hck
 refine ⟨dF,_,_,_,_,_,dA,(by decide),aQ,?_⟩
 repeat (first|refine ah ?_|refine ag ?_|refine ak ?_)
 refine bU aU aU (lsD nd.length 22 23) ?_
 repeat (first|refine ah ?_|refine aH ?_|refine aF ?_|refine aX ?_|refine aJ ?_|refine aA ?_)
 refine bF aK dO (hss.mono fun r h=>h) ⟨.bool true,rfl,rfl⟩ ?_
 rintro r hr -
 obtain rfl:r=.bool true:=hr
 refine ⟨dF,_,_,_,_,_,dA,(by decide),aQ,?_⟩
 repeat (first|refine ah ?_|refine aH ?_|refine aF ?_|refine aJ ?_|refine aA ?_)
 refine bF aK dO (o1.mono fun r h=>lsD_ov.2 h) ⟨_,lsD_ov.2 rfl,rfl⟩ ?_
 rintro r hr -
 obtain rfl:=lsD_ov.1 hr
 refine ⟨dF,_,_,_,_,_,dA,(by decide),aQ,?_⟩
 repeat (first|refine ah ?_|refine aH ?_|refine aF ?_|refine aX ?_|refine aJ ?_|refine aA ?_)
 refine bF aK dO (o2.mono fun r h=>lsD_ov.2 h) ⟨_,lsD_ov.2 rfl,rfl⟩ ?_
 rintro r hr -
 obtain rfl:=lsD_ov.1 hr
 refine ⟨dF,_,_,_,_,_,dA,(by decide),aQ,?_⟩
 repeat (first|refine ah ?_|refine aH ?_|refine aX ?_|refine aJ ?_|refine bV ?_)
 refine bF aK dO (hck.mono fun r h=>h) ⟨.int .i64 0,rfl,rfl⟩ ?_
 rintro r hr -
 obtain rfl:r=.int .i64 0:=hr
 refine ⟨dF,_,_,_,_,_,dA,(by decide),aQ,?_⟩
 repeat (first|refine ah ?_|refine aH ?_|refine aX ?_|refine aJ ?_)
 refine bF aK dO (ht_lives29.mono fun r h=>h) ⟨.bool true,rfl,rfl⟩ ?_
 rintro r hr -
 obtain rfl:r=.bool true:=hr
 refine ⟨dF,_,_,_,_,_,dA,(by decide),aQ,?_⟩
 repeat (first|refine ah ?_|refine ag ?_|refine aJ ?_)
 refine ay ?_
 rfl
end Go.Proofs.Yteamkjblpglliaa
