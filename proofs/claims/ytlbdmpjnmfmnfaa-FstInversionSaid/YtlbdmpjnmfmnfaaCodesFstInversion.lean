import Derived.Test.YtlbdmpjnmfmnfaaHl4
import Derived.Test.YtlbdmpjnmfmnfaaProg
namespace Go.Proofs.Ytlbdmpjnmfmnfaa
open Go.HL
set_option maxRecDepth 100000
set_option linter.unusedVariables false
def WQ:HCode:=.seq (.region none (qo 6 (.mv 0 (.c (.bool false)))::[])) .ret
def Xw:HCode:=.seq (.region none (qo 6 (.mv 0 (.c (.bool false)))::[])) .ret
def WO:HCode:=.seq (.region none (qm 76 0 18::qo 77 (.bin .eql (.t 76) (qn 0))::qm 78 0 77::qg 79 (.mv 1 (.t 17)) 2 true::qg 80 (.mv 1 (.t 10)) 2 true::qg 81 (.call 24 [.t 79,.t 80]) 2 true::qg 82 (.un .not (.t 81)) 2 true::qo 83 (.pick (.t 78) (.t 82) (.c (.bool false)))::qm 84 0 83::qg 85 (.mv 0 (.t 18)) 8 false::qg 86 (.bin .neq (.t 85) (qn 0)) 8 false::qg 87 (.mv 0 (.t 86)) 8 false::qg 88 (.mv 0 (.t 18)) 11 true::qg 89 (.bin .neq (.t 88) (qn 4)) 11 true::qg 90 (.pick (.t 87) (.t 89) (.c (.bool false))) 8 false::qo 91 (.pick (.t 84) (.c (.bool true)) (.t 90))::[])) (.cond (.t 91) Xw .skip)
def Xz:HCode:=.region none (qm 65 0 16::qo 66 (.bin .add (.t 65) (qn 1))::qm 16 0 66::[])
def W9:HCode:=.seq (.block 3 (.seq (.region (some [0,0,0,6,14,31,63,127,127,255,1023]) (qo 68 (.load true 2 (.t 8))::qm 69 1 12::qm 70 0 16::qi 71 69 70::ql 72 71::qo 73 (.call 17 [.t 68,.t 72,(qn 64)])::qm 67 0 73::qe 74 67 0::qe 75 67 1::qm 17 1 74::qm 18 0 75::[])) WO)) Xz
def WM:HCode:=.seq (.seq (.region none (qm 57 0 16::qm 58 1 12::qo 59 (.len (.t 58))::qo 60 (.bin .lss (.t 57) (.t 59))::qm 61 0 60::qg 62 (.mv 0 (.t 16)) 4 true::qg 63 (.bin .lss (.t 62) (qn 6)) 4 true::qo 64 (.pick (.t 61) (.t 63) (.c (.bool false)))::[])) (.cond (.t 64) .skip (.exit 2))) W9
def WS:HCode:=.seq (.region none (qo 6 (.mv 0 (.c (.bool false)))::[])) .ret
def WT:HCode:=.seq (.region none (qm 98 0 13::qo 99 (.bin .eql (.t 98) (qn 0))::qm 100 0 99::qg 101 (.mv 0 (.t 20)) 2 true::qg 102 (.bin .eql (.t 101) (qn 0)) 2 true::qo 103 (.pick (.t 100) (.t 102) (.c (.bool false)))::qm 104 0 103::qg 105 (.mv 1 (.t 12)) 6 true::qg 106 (.mv 1 (.t 11)) 6 true::qg 107 (.call 24 [.t 105,.t 106]) 6 true::qg 108 (.mv 1 (.t 19)) 6 true::qg 109 (.mv 1 (.t 10)) 6 true::qg 110 (.call 24 [.t 108,.t 109]) 6 true::qg 111 (.beq true (.t 107) (.t 110)) 6 true::qo 112 (.pick (.t 104) (.t 111) (.c (.bool false)))::[])) (.cond (.t 112) WS .skip)
def WL:HCode:=.seq (.region none (qo 93 (.load true 2 (.t 8))::qm 94 1 11::qo 95 (.call 17 [.t 93,.t 94,(qn 64)])::qm 92 0 95::qe 96 92 0::qe 97 92 1::qm 19 1 96::qm 20 0 97::[])) WT
def SQ:HCode:=.seq (.seq (.region none (qo 16 (.mv 0 (qn 0))::[])) (.block 2 (.loop WM))) WL
def RV:HCode:=.seq (.seq (.region none (qm 48 0 13::qm 49 0 15::qo 50 (.bin .neq (.t 48) (.t 49))::qm 51 0 50::qg 52 (.mv 1 (.t 12)) 3 false::qg 53 (.mv 1 (.t 14)) 3 false::qg 54 (.call 19 [.t 52,.t 53]) 3 false::qg 55 (.un .not (.t 54)) 3 false::qo 56 (.pick (.t 51) (.c (.bool true)) (.t 55))::[])) (.cond (.t 56) WQ .skip)) SQ
def U3:HCode:=.seq (.region none (qo 42 (.load true 2 (.t 8))::qo 43 (.call 23 [.t 42])::qm 44 1 10::qo 45 (.call 17 [.t 43,.t 44,(qn 32)])::qm 41 0 45::qe 46 41 0::qe 47 41 1::qm 14 1 46::qm 15 0 47::[])) RV
def TE:HCode:=.seq (.region none (qo 36 (.load true 2 (.t 7))::qm 37 1 10::qo 38 (.call 17 [.t 36,.t 37,(qn 32)])::qm 35 0 38::qe 39 35 0::qe 40 35 1::qm 12 1 39::qm 13 0 40::[])) U3
def Ui:HCode:=.seq (.region none (qm 32 1 2::qm 33 0 9::qo 34 (.call 14 [.t 32,.t 33])::qm 11 1 34::[])) TE
def UH:HCode:=.region none (qm 27 0 9::qo 28 (.bin .add (.t 27) (qn 1))::qm 9 0 28::[])
def Ru:HCode:=.seq (.block 1 (.seq (.region none (qm 29 1 1::qm 30 0 9::qo 31 (.call 14 [.t 29,.t 30])::qm 10 1 31::[])) Ui)) UH
def U4:HCode:=.seq (.seq (.region none (qm 25 0 9::qo 26 (.bin .leq (.t 25) (qn 4))::[])) (.cond (.t 26) .skip (.exit 0))) Ru
def Wu:HCode:=.seq (.region none (qo 113 (.call 20 [])::qm 6 0 113::[])) .ret
def Uu:HCode:=.seq (.seq (.region none (qo 9 (.mv 0 (qn 0))::[])) (.block 0 (.loop U4))) Wu
def Vq:HCode:=.seq (.region none (qo 23 (.load true 2 (.t 7))::qo 24 (.call 23 [.t 23])::qo 8 (.newz [.nils,.nils])::⟨none,.store false 2 (.t 8) (.t 24),none⟩::[])) Uu
def UV:HCode:=.seq (.region none (qm 21 1 0::qo 22 (.call 11 [.t 21])::qo 7 (.newz [.nils,.nils])::⟨none,.store false 2 (.t 7) (.t 22),none⟩::[])) Vq
def c5:HCode:=.seq (.region none (qo 6 (.mv 0 (.c (.bool false)))::[])) UV
theorem Yi:dE Try.prog 5=some (c5,[6],114):=by kernel_rfl
end Go.Proofs.Ytlbdmpjnmfmnfaa
