import Derived.Test.YtlbdmpjnmfmnfaaHl4
import Derived.Test.YtlbdmpjnmfmnfaaProg
namespace Go.Proofs.Ytlbdmpjnmfmnfaa
open Go.HL
set_option maxRecDepth 100000
set_option linter.unusedVariables false
def abw:HCode:=.seq (.region none (qo 12 (.mv 0 (.c (.bool false)))::[])) .ret
def ab1:HCode:=.seq (.region none (qm 87 0 20::qm 88 0 22::qo 89 (.bin .neq (.t 87) (.t 88))::qm 90 0 89::qg 91 (.mv 1 (.t 19)) 3 false::qg 92 (.mv 1 (.t 21)) 3 false::qg 93 (.call 19 [.t 91,.t 92]) 3 false::qg 94 (.un .not (.t 93)) 3 false::qo 95 (.pick (.t 90) (.c (.bool true)) (.t 94))::[])) (.cond (.t 95) abw .skip)
def abn:HCode:=.seq (.region (some [0,0,3,7,0,0,48,112,0,0,768,1792,4095,8191,16383,16383,32767,131071]) (qm 72 2 14::qm 73 0 17::qo 74 (.iaddr 2 (.t 72) (.t 73))::qo 75 (.load true 2 (.t 74))::qm 76 1 15::qm 77 0 18::qi 78 76 77::ql 79 78::qm 80 1 16::qm 81 0 18::qi 82 80 81::ql 83 82::qo 84 (.call 18 [.t 75,.t 79,.t 83])::qm 71 0 84::qe 85 71 0::qe 86 71 1::qm 21 1 85::qm 22 0 86::[])) ab1
def ab5:HCode:=.region none (qm 53 0 18::qo 54 (.bin .add (.t 53) (qn 1))::qm 18 0 54::[])
def abI:HCode:=.seq (.block 3 (.seq (.region (some [0,0,3,7,0,0,48,112,0,0,768,1792,4095,8191,16383,16383,32767,131071]) (qm 56 2 14::qm 57 0 17::qo 58 (.iaddr 2 (.t 56) (.t 57))::qo 59 (.load true 2 (.t 58))::qm 60 1 15::qm 61 0 18::qi 62 60 61::ql 63 62::qm 64 1 16::qm 65 0 18::qi 66 64 65::ql 67 66::qo 68 (.call 17 [.t 59,.t 63,.t 67])::qm 55 0 68::qe 69 55 0::qe 70 55 1::qm 19 1 69::qm 20 0 70::[])) abn)) ab5
def abN:HCode:=.seq (.seq (.region none (qm 51 0 18::qo 52 (.bin .lss (.t 51) (qn 3))::[])) (.cond (.t 52) .skip (.exit 2))) abI
def abU:HCode:=.region none (qm 49 0 17::qo 50 (.bin .add (.t 49) (qn 1))::qm 17 0 50::[])
def abT:HCode:=.seq (.block 1 (.seq (.region none (qo 18 (.mv 0 (qn 0))::[])) (.block 2 (.loop abN)))) abU
def abL:HCode:=.seq (.seq (.region none (qm 47 0 17::qo 48 (.bin .lss (.t 47) (qn 3))::[])) (.cond (.t 48) .skip (.exit 0))) abT
def Xg:HCode:=.seq (.region none (qm 107 0 24::qo 108 (.bin .eql (.t 107) (qn 1))::qm 109 0 108::qg 110 (.mv 0 (.t 26)) 2 true::qg 111 (.bin .eql (.t 110) (qn 1)) 2 true::qo 112 (.pick (.t 109) (.t 111) (.c (.bool false)))::qm 113 0 112::qg 114 (.call 20 []) 6 true::qo 115 (.pick (.t 113) (.t 114) (.c (.bool false)))::qm 12 0 115::[])) .ret
def aay:HCode:=.seq (.region none (qo 103 (.load true 2 (.t 13))::qo 104 (.call 17 [.t 103,(.c .nils),(qn 65)])::qm 102 0 104::qe 105 102 0::qe 106 102 1::qm 25 1 105::qm 26 0 106::[])) Xg
def ZZ:HCode:=.seq (.region (some [0,0,3,7,15,15,31,127]) (qo 97 (.load true 2 (.t 13))::qo 98 (.mksl 1 8 [.int .i64 0] (qn 1025))::qo 99 (.call 17 [.t 97,.t 98,(qn 1)])::qm 96 0 99::qe 100 96 0::qe 101 96 1::qm 23 1 100::qm 24 0 101::[])) aay
def WY:HCode:=.seq (.seq (.region none (qo 17 (.mv 0 (qn 0))::[])) (.block 0 (.loop abL))) ZZ
def aaO:HCode:=.seq (.region none (qm 42 0 3::qm 43 0 3::qo 44 (.call 16 [.t 43,(qn 9)])::qo 45 (.bin .add (qn 1) (.t 44))::qo 46 (.bsl 1 3 [.t 42,.t 45,(qn 4)])::qm 16 1 46::[])) WY
def Wy:HCode:=.seq (.region none (qm 37 1 1::qo 38 (.call 14 [.t 37,(qn 6)])::qm 39 1 2::qo 40 (.call 15 [.t 39,(qn 5)])::qo 41 (.bsl 1 3 [.t 38,.t 40,(.c .nils)])::qm 15 1 41::[])) aaO
def ZK:HCode:=.seq (.region (some [0,0,0,0,14,0,62,127,255]) (qo 29 (.load true 2 (.t 13))::qo 30 (.load true 2 (.t 13))::qm 31 0 4::qm 32 0 5::qo 33 (.call 12 [.t 30,.t 31,.t 32])::qo 34 (.load true 2 (.t 13))::qo 35 (.call 13 [.t 34])::qo 36 (.bsl 2 3 [.t 29,.t 33,.t 35])::qm 14 2 36::[])) Wy
def VX:HCode:=.seq (.region none (qm 27 1 0::qo 28 (.call 11 [.t 27])::qo 13 (.newz [.nils,.nils])::⟨none,.store false 2 (.t 13) (.t 28),none⟩::[])) ZK
def c3:HCode:=.seq (.region none (qo 12 (.mv 0 (.c (.bool false)))::[])) VX
theorem fc3:dI Try.prog 3=some (c3,[12],116):=by kernel_rfl
end Go.Proofs.Ytlbdmpjnmfmnfaa
