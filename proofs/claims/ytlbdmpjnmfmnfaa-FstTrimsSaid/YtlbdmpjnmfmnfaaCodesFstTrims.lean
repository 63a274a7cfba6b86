import Derived.Test.YtlbdmpjnmfmnfaaHl4
import Derived.Test.YtlbdmpjnmfmnfaaProg
namespace Go.Proofs.Ytlbdmpjnmfmnfaa
open Go.HL
set_option maxRecDepth 100000
set_option linter.unusedVariables false
def ZL:HCode:=.seq (.region none (qo 6 (.mv 0 (.c (.bool false)))::[])) .ret
def aat:HCode:=.seq (.region none (qo 6 (.mv 0 (.c (.bool false)))::[])) .ret
def Zx:HCode:=.seq (.region (some [0,1,0,7,15,31,63,63,255,511,1023,2047,63,63,12351,28735,65535,131071,262143]) (qo 50 (.load true 2 (.t 10))::qo 51 (.call 25 [.t 50])::qo 52 (.load true 2 (.t 10))::qo 53 (.call 28 [.t 51,.t 52])::qo 54 (.un .not (.t 53))::qm 55 0 54::qg 56 (.mv 2 (.t 8)) 5 false::qg 57 (.mv 0 (.t 9)) 5 false::qg 58 (.iaddr 2 (.t 56) (.t 57)) 5 false::qg 59 (.load true 2 (.t 58)) 5 false::qg 60 (.call 23 [.t 59]) 5 false::qg 61 (.call 26 [.t 60]) 5 false::qg 62 (.mv 2 (.t 8)) 5 false::qg 63 (.mv 0 (.t 9)) 5 false::qg 64 (.iaddr 2 (.t 62) (.t 63)) 5 false::qg 65 (.load true 2 (.t 64)) 5 false::qg 66 (.call 27 [.t 65]) 5 false::qg 67 (.beq true (.t 61) (.t 66)) 5 false::qo 68 (.pick (.t 55) (.c (.bool true)) (.t 67))::[])) (.cond (.t 68) aat .skip)
def aaf:HCode:=.seq (.seq (.region (some [0,0,3,7,15,0,0,96,224,511,1023,2047,4095,4095,4095,28671,61439,126975,262143,524287,1048575]) (qm 29 2 8::qm 30 0 9::qo 31 (.iaddr 2 (.t 29) (.t 30))::qo 32 (.load true 2 (.t 31))::qo 33 (.call 26 [.t 32])::qm 34 2 8::qm 35 0 9::qo 36 (.iaddr 2 (.t 34) (.t 35))::qo 37 (.load true 2 (.t 36))::qo 38 (.call 27 [.t 37])::qo 39 (.beq true (.t 33) (.t 38))::qm 40 0 39::qg 41 (.load true 2 (.t 10)) 11 false::qg 42 (.mv 2 (.t 8)) 11 false::qg 43 (.mv 0 (.t 9)) 11 false::qg 44 (.iaddr 2 (.t 42) (.t 43)) 11 false::qg 45 (.load true 2 (.t 44)) 11 false::qg 46 (.call 13 [.t 45]) 11 false::qg 47 (.call 28 [.t 41,.t 46]) 11 false::qg 48 (.un .not (.t 47)) 11 false::qo 49 (.pick (.t 40) (.c (.bool true)) (.t 48))::[])) (.cond (.t 49) ZL .skip)) Zx
def ZJ:HCode:=.region none (qm 22 0 9::qo 23 (.bin .add (.t 22) (qn 1))::qm 9 0 23::[])
def aaj:HCode:=.seq (.block 1 (.seq (.region none (qm 24 2 8::qm 25 0 9::qo 26 (.iaddr 2 (.t 24) (.t 25))::qo 27 (.load true 2 (.t 26))::qo 28 (.call 25 [.t 27])::qo 10 (.newz [.nils,.nils])::⟨none,.store false 2 (.t 10) (.t 28),none⟩::[])) aaf)) ZJ
def aac:HCode:=.seq (.seq (.region none (qm 20 0 9::qo 21 (.bin .lss (.t 20) (qn 3))::[])) (.cond (.t 21) .skip (.exit 0))) aaj
def aad:HCode:=.seq (.region none (qo 69 (.call 20 [])::qm 6 0 69::[])) .ret
def Z8:HCode:=.seq (.seq (.region none (qo 9 (.mv 0 (qn 0))::[])) (.block 0 (.loop aac))) aad
def Za:HCode:=.seq (.region (some [0,0,0,0,14,0,63,127]) (qo 13 (.load true 2 (.t 7))::qo 14 (.load true 2 (.t 7))::qm 15 0 1::qm 16 0 2::qo 17 (.call 12 [.t 14,.t 15,.t 16])::qo 18 (.bld [.nils,.nils] [])::qo 19 (.bsl 2 3 [.t 13,.t 17,.t 18])::qm 8 2 19::[])) Z8
def U9:HCode:=.seq (.region none (qm 11 1 0::qo 12 (.call 11 [.t 11])::qo 7 (.newz [.nils,.nils])::⟨none,.store false 2 (.t 7) (.t 12),none⟩::[])) Za
def c6:HCode:=.seq (.region none (qo 6 (.mv 0 (.c (.bool false)))::[])) U9
theorem fc6:dF Try.prog 6=some (c6,[6],70):=by kernel_rfl
end Go.Proofs.Ytlbdmpjnmfmnfaa
