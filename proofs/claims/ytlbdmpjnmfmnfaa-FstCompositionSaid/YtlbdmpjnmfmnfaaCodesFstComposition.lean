import Derived.Test.YtlbdmpjnmfmnfaaHl4
import Derived.Test.YtlbdmpjnmfmnfaaProg
namespace Go.Proofs.Ytlbdmpjnmfmnfaa
open Go.HL
set_option maxRecDepth 100000
set_option linter.unusedVariables false
def Y0:HCode:=.seq (.region none (qo 6 (.mv 0 (.c (.bool false)))::[])) .ret
def Yk:HCode:=.region none (qm 80 0 22::qo 81 (.bin .add (.t 80) (qn 1))::qm 22 0 81::[])
def YH:HCode:=.seq (.block 5 (.region none (qm 82 1 17::qm 83 1 20::qm 84 0 22::qi 85 83 84::ql 86 85::qo 87 (.call 22 [.t 82,.t 86])::qm 17 1 87::[]))) Yk
def Yq:HCode:=.seq (.seq (.region none (qm 76 0 22::qm 77 1 20::qo 78 (.len (.t 77))::qo 79 (.bin .lss (.t 76) (.t 78))::[])) (.cond (.t 79) .skip (.exit 4))) YH
def Y5:HCode:=.seq (.region none (qo 22 (.mv 0 (qn 0))::[])) (.block 4 (.loop Yq))
def YJ:HCode:=.seq (.region none (qm 71 0 18::qm 72 0 71::qg 73 (.mv 0 (.t 21)) 1 true::qg 74 (.bin .eql (.t 73) (qn 0)) 1 true::qo 75 (.pick (.t 72) (.t 74) (.c (.bool false)))::qm 18 0 75::[])) Y5
def YV:HCode:=.region none (qm 60 0 19::qo 61 (.bin .add (.t 60) (qn 1))::qm 19 0 61::[])
def YC:HCode:=.seq (.block 3 (.seq (.region (some [0,0,0,6,14,31,63,127,127,255,1023]) (qo 63 (.load true 2 (.t 8))::qm 64 1 13::qm 65 0 19::qi 66 64 65::ql 67 66::qo 68 (.call 17 [.t 63,.t 67,(qn 20)])::qm 62 0 68::qe 69 62 0::qe 70 62 1::qm 20 1 69::qm 21 0 70::[])) YJ)) YV
def YZ:HCode:=.seq (.seq (.region none (qm 56 0 19::qm 57 1 13::qo 58 (.len (.t 57))::qo 59 (.bin .lss (.t 56) (.t 58))::[])) (.cond (.t 59) .skip (.exit 2))) YC
def V3:HCode:=.seq (.region none (qo 6 (.mv 0 (.c (.bool false)))::[])) .ret
def UR:HCode:=.seq (.region none (qo 6 (.mv 0 (.c (.bool false)))::[])) .ret
def Ya:HCode:=.seq (.region none (qm 104 0 18::qm 105 0 104::qg 106 (.mv 1 (.t 17)) 1 true::qg 107 (.len (.t 106)) 1 true::qg 108 (.bin .gtr (.t 107) (qn 64)) 1 true::qo 109 (.pick (.t 105) (.t 108) (.c (.bool false)))::qm 110 0 109::qg 111 (.mv 0 (.t 16)) 6 true::qg 112 (.bin .neq (.t 111) (qn 4)) 6 true::qo 113 (.pick (.t 110) (.t 112) (.c (.bool false)))::[])) (.cond (.t 113) UR .skip)
def VE:HCode:=.seq (.seq (.region none (qm 88 0 18::qm 89 0 88::qg 90 (.mv 1 (.t 17)) 1 true::qg 91 (.len (.t 90)) 1 true::qg 92 (.bin .leq (.t 91) (qn 64)) 1 true::qo 93 (.pick (.t 89) (.t 92) (.c (.bool false)))::qm 94 0 93::qg 95 (.mv 0 (.t 16)) 6 true::qg 96 (.bin .neq (.t 95) (qn 0)) 6 true::qg 97 (.mv 0 (.t 96)) 6 true::qg 98 (.mv 1 (.t 15)) 9 false::qg 99 (.mv 1 (.t 17)) 9 false::qg 100 (.call 19 [.t 98,.t 99]) 9 false::qg 101 (.un .not (.t 100)) 9 false::qg 102 (.pick (.t 97) (.c (.bool true)) (.t 101)) 6 true::qo 103 (.pick (.t 94) (.t 102) (.c (.bool false)))::[])) (.cond (.t 103) V3 .skip)) Ya
def Wx:HCode:=.seq (.seq (.region none (qo 19 (.mv 0 (qn 0))::[])) (.block 2 (.loop YZ))) VE
def Xo:HCode:=.seq (.region none (qo 18 (.mv 0 (.c (.bool true)))::[])) Wx
def Vb:HCode:=.seq (.region none (qo 17 (.mv 1 (.c .nils))::[])) Xo
def VB:HCode:=.seq (.seq (.region none (qm 54 0 14::qo 55 (.bin .neq (.t 54) (qn 0))::[])) (.cond (.t 55) (.exit 1) .skip)) Vb
def Vs:HCode:=.seq (.region none (qo 49 (.load true 2 (.t 9))::qm 50 1 12::qo 51 (.call 17 [.t 49,.t 50,(qn 64)])::qm 48 0 51::qe 52 48 0::qe 53 48 1::qm 15 1 52::qm 16 0 53::[])) VB
def X3:HCode:=.seq (.region none (qo 43 (.load true 2 (.t 7))::qm 44 1 12::qo 45 (.call 17 [.t 43,.t 44,(qn 20)])::qm 42 0 45::qe 46 42 0::qe 47 42 1::qm 13 1 46::qm 14 0 47::[])) Vs
def UK:HCode:=.region none (qm 37 0 11::qo 38 (.bin .add (.t 37) (qn 1))::qm 11 0 38::[])
def WL:HCode:=.seq (.block 1 (.seq (.region none (qm 39 1 2::qm 40 0 11::qo 41 (.call 14 [.t 39,.t 40])::qm 12 1 41::[])) X3)) UK
def VQ:HCode:=.seq (.seq (.region none (qm 35 0 11::qo 36 (.bin .leq (.t 35) (qn 5))::[])) (.cond (.t 36) .skip (.exit 0))) WL
def Yc:HCode:=.seq (.region none (qo 114 (.call 20 [])::qm 6 0 114::[])) .ret
def Vq:HCode:=.seq (.seq (.region none (qo 11 (.mv 0 (qn 0))::[])) (.block 0 (.loop VQ))) Yc
def Vy:HCode:=.seq (.seq (.region none (qm 33 0 10::qo 34 (.bin .neq (.t 33) (qn 0))::[])) (.cond (.t 34) Y0 .skip)) Vq
def TP:HCode:=.seq (.region none (qo 28 (.load true 2 (.t 7))::qo 29 (.load true 2 (.t 8))::qo 30 (.call 21 [.t 28,.t 29])::qm 27 0 30::qe 31 27 0::qe 32 27 1::qo 9 (.newz [.nils,.nils])::⟨none,.store false 2 (.t 9) (.t 31),none⟩::qm 10 0 32::[])) Vy
def Xu:HCode:=.seq (.region none (qm 25 1 1::qo 26 (.call 11 [.t 25])::qo 8 (.newz [.nils,.nils])::⟨none,.store false 2 (.t 8) (.t 26),none⟩::[])) TP
def Ud:HCode:=.seq (.region none (qm 23 1 0::qo 24 (.call 11 [.t 23])::qo 7 (.newz [.nils,.nils])::⟨none,.store false 2 (.t 7) (.t 24),none⟩::[])) Xu
def c4:HCode:=.seq (.region none (qo 6 (.mv 0 (.c (.bool false)))::[])) Ud
theorem ZK:dF Try.prog 4=some (c4,[6],115):=by kernel_rfl
end Go.Proofs.Ytlbdmpjnmfmnfaa
